/- A logical layer over the walk, fourth part: known blocks as rows, functions that write them, pointers. -/
import Derived.Test.YthjbcgdmdmfijaaLoC
import Derived.Deep.AppendSrc
set_option linter.unusedVariables false
set_option linter.unusedSimpArgs false
set_option maxRecDepth 100000
namespace Go.Lo
open Go.RowKit

/-- The cells C hold the row r of plain values. -/
structure RowC (C : Array Value) (c : Nat) (r : Row) : Prop where
  size : C.size = c * r.sz
  le : r.els.length ≤ c
  max : c ≤ maxLen
  wid : ∀ e ∈ r.els, e.length = r.sz
  at' : ∀ (i : Nat) e (j : Nat) m, r.els[i]? = some e → e[j]? = some m → ∃ u, C[i * r.sz + j]? = some u ∧ u.oneCell' = true ∧ m.val = some u
def Row.pl (r : Row) : Prop := ∀ e ∈ r.els, ∀ m ∈ e, m.val.isSome = true

theorem RowR.rowC {h : Array Obj} {S : Nat → Prop} {b c : Nat} {r : Row} (g : RowR h S b c r) (hp : r.pl) : ∃ C, h[b]? = some (.cells C r.ty (0, 0)) ∧ RowC C c r := by
  obtain ⟨C, h1, h2, h3, h4, h5, h6⟩ := g
  refine ⟨C, h1, h2, h3, h4, h5, fun i e j m he hm => ?_⟩
  obtain ⟨u, hu, ho, hv⟩ := h6 i e j m he hm
  obtain ⟨u', hu'⟩ := Option.isSome_iff_exists.1 (hp e (List.mem_of_getElem? he) m (List.mem_of_getElem? hm))
  have := VR.of_val hu' hv
  subst this
  exact ⟨u, hu, ho, hu'⟩
theorem RowC.rowR {h : Array Obj} {S : Nat → Prop} {b c : Nat} {r : Row} {C : Array Value} (g : RowC C c r) (hb : h[b]? = some (.cells C r.ty (0, 0))) : RowR h S b c r :=
  ⟨C, hb, g.size, g.le, g.max, g.wid, fun i e j m he hm => let ⟨u, hu, ho, hv⟩ := g.at' i e j m he hm; ⟨u, hu, ho, VR.of_val_mk hv⟩⟩
theorem RowC.nums {C : Array Value} {c e : Nat} {l : List Int} (g : RowC C c ⟨e, 1, l.map encN⟩) : Nums C c l :=
  ⟨by simpa using g.size, by simpa using g.le, g.max, fun i v hv => by
    obtain ⟨u, hu, _, hvr⟩ := g.at' i [I v] 0 (I v) (by simp [hv, encN]) rfl
    have hu' : C[i]? = some u := by simpa using hu
    have : Value.int .i64 v = u := by simpa [PV.val] using hvr
    rw [hu', this]⟩
theorem Nums.rowC {C : Array Value} {c e : Nat} {l : List Int} (g : Nums C c l) : RowC C c ⟨e, 1, l.map encN⟩ := by
  refine ⟨by simpa using g.size, by simpa using g.le, g.max, fun x hx => ?_, fun i x j m hx hm => ?_⟩
  · obtain ⟨v, _, rfl⟩ := List.mem_map.1 hx; rfl
  · simp only [List.getElem?_map, Option.map_eq_some_iff] at hx
    obtain ⟨v, hv, rfl⟩ := hx
    match j, hm with
    | 0, hm =>
      have : m = I v := by simpa [encN] using hm.symm
      subst this
      exact ⟨.int .i64 v, by simpa using g.at' i v hv, rfl, rfl⟩
    | n + 1, hm => simp [encN] at hm
theorem RowC.take {C : Array Value} {c : Nat} {r : Row} (g : RowC C c r) (n : Nat) : RowC C c ⟨r.ty, r.sz, r.els.take n⟩ :=
  ⟨g.size, by have := g.le; simp; omega, g.max, fun e he => g.wid e (List.mem_of_mem_take he), fun i e j m he hm => by
    have he' : (r.els.take n)[i]? = some e := he
    rw [List.getElem?_take] at he'
    split at he'
    · exact g.at' i e j m he' hm
    · cases he'⟩
theorem Nums.take {C : Array Value} {c : Nat} {l : List Int} (g : Nums C c l) (n : Nat) : Nums C c (l.take n) :=
  ⟨g.size, by have := g.le; simp; omega, g.max, fun i v hv => by
    rw [List.getElem?_take] at hv
    split at hv
    · exact g.at' i v hv
    · cases hv⟩
theorem RowC.set {C : Array Value} {c i j : Nat} {r : Row} {e : List PV} {m : PV} {v : Value} (g : RowC C c r) (he : r.els[i]? = some e) (hj : j < e.length) (hm : m.val = some v) (hv : v.oneCell' = true) :
    RowC (C.setIfInBounds (i * r.sz + j) v) c ⟨r.ty, r.sz, r.els.set i (e.set j m)⟩ := by
  have hi : i < r.els.length := (List.getElem?_eq_some_iff.1 he).1
  have hew := g.wid e (List.mem_of_getElem? he)
  have hlt : i * r.sz + j < C.size := by
    rw [g.size]
    have h1 := g.le
    have : (i + 1) * r.sz ≤ c * r.sz := Nat.mul_le_mul_right _ (by omega)
    rw [Nat.add_mul] at this; omega
  refine ⟨by simpa using g.size, by simpa using g.le, g.max, fun x hx => ?_, fun p x q mm hx hmm => ?_⟩
  · rcases List.mem_or_eq_of_mem_set hx with h | h
    · exact g.wid x h
    · rw [h]; simpa using hew
  · have hx' : (r.els.set i (e.set j m))[p]? = some x := hx
    rw [List.getElem?_set] at hx'
    by_cases hp : i = p
    · subst hp
      rw [if_pos rfl, if_pos hi] at hx'
      cases hx'
      rw [List.getElem?_set] at hmm
      by_cases hq : j = q
      · subst hq
        rw [if_pos rfl, if_pos hj] at hmm
        cases hmm
        exact ⟨v, by simp [hlt], hv, hm⟩
      · rw [if_neg hq] at hmm
        obtain ⟨u, hu, h1, h2⟩ := g.at' i e q mm he hmm
        refine ⟨u, ?_, h1, h2⟩
        show (C.setIfInBounds (i * r.sz + j) v)[i * r.sz + q]? = _
        rw [Array.getElem?_setIfInBounds_ne (by omega)]; exact hu
    · rw [if_neg hp] at hx'
      obtain ⟨u, hu, h1, h2⟩ := g.at' p x q mm hx' hmm
      refine ⟨u, ?_, h1, h2⟩
      have hq : q < r.sz := by rw [← g.wid x (List.mem_of_getElem? hx')]; exact (List.getElem?_eq_some_iff.1 hmm).1
      have hne : i * r.sz + j ≠ p * r.sz + q := fun he2 => by
        rcases Nat.lt_or_gt_of_ne hp with h | h
        · have : (i + 1) * r.sz ≤ p * r.sz := Nat.mul_le_mul_right _ h
          rw [Nat.add_mul] at this; omega
        · have : (p + 1) * r.sz ≤ i * r.sz := Nat.mul_le_mul_right _ h
          rw [Nat.add_mul] at this; omega
      show (C.setIfInBounds (i * r.sz + j) v)[p * r.sz + q]? = _
      rw [Array.getElem?_setIfInBounds_ne hne]; exact hu
theorem Nums.set {C : Array Value} {c i : Nat} {l : List Int} (g : Nums C c l) (hi : i < l.length) (v : Int) : Nums (C.setIfInBounds i (.int .i64 v)) c (l.set i v) := by
  refine ⟨by simpa using g.size, by simpa using g.le, g.max, fun p u hu => ?_⟩
  rw [List.getElem?_set] at hu
  by_cases hp : i = p
  · subst hp
    rw [if_pos rfl, if_pos hi] at hu
    cases hu
    have : i < C.size := by have := g.le; have := g.size; omega
    simp [this]
  · rw [if_neg hp] at hu
    rw [Array.getElem?_setIfInBounds_ne hp]; exact g.at' p u hu

/-- From one world to the next: rows that come, rows that are written, known blocks that change. -/
theorem SRL.addX {st : St} {w0 : Bs} {a : Act} {w w' : World} {L cp sz ln L' cp' sz' ln' : Nat → Nat} {new rows1 : List (Nat × Row)} {nk' : Nat} {X' : Frag} (s : SRL w0 st a w L cp sz ln)
    (hos : w'.os = w.os) (htape : w'.tape = w.tape) (hout : w'.output = w.output) (hsize : w.heap.size ≤ w'.heap.size)
    (hlive1 : ∀ k, liveIn rows1 k → liveIn st.rows k)
    (hstab : ∀ b, stab w0 st.rows st.x L w.heap b → w'.heap[b]? = w.heap[b]? ∧ X' b = none)
    (hunder : ∀ b, b < w0.w.heap.size → ¬ w0.M b → w'.heap[b]? = w.heap[b]?)
    (hold : ∀ k, k < st.nk → L' k = L k ∧ cp' k = cp k ∧ sz' k = sz k ∧ ln' k = ln k)
    (hkeys : ∀ k, liveIn new k → st.nk ≤ k ∧ k < nk') (hnk : st.nk ≤ nk')
    (hrow1 : ∀ k r, look rows1 k = some r → RowR w'.heap (stab w0 (new ++ rows1) X' L' w'.heap) (L k) (cp k) r ∧ sz k = r.sz ∧ ln k = r.els.length)
    (hnew : ∀ k r, look new k = some r → RowR w'.heap (stab w0 (new ++ rows1) X' L' w'.heap) (L' k) (cp' k) r ∧ w.heap.size ≤ L' k ∧ sz' k = r.sz ∧ ln' k = r.els.length)
    (hinj : ∀ k k', liveIn new k → liveIn new k' → L' k = L' k' → k = k')
    (hX : ∀ b o, X' b = some o → w'.heap[b]? = some o ∧ (w0.w.heap.size ≤ b ∨ w0.M b) ∧ ∀ k, liveIn (new ++ rows1) k → L' k ≠ b) :
    SRL w0 { n := st.n, nk := nk', t := st.t, rows := new ++ rows1, x := X' } a w' L' cp' sz' ln' := by
  have hlive : ∀ k, liveIn (new ++ rows1) k → liveIn new k ∨ liveIn st.rows k := fun k hk => by
    unfold liveIn at *
    rw [look_append] at hk
    cases h : look new k with
    | some r => left; rfl
    | none => rw [h] at hk; right; exact hlive1 k hk
  have hLold : ∀ k, liveIn st.rows k → L' k = L k := fun k hk => (hold k (s.keys k hk)).1
  have hlt : ∀ k, liveIn st.rows k → L k < w.heap.size := fun k hk => s.live_lt hk
  have hnl : ∀ k, liveIn new k → w.heap.size ≤ L' k := fun k hk => by
    obtain ⟨r, hr⟩ := Option.isSome_iff_exists.1 hk
    exact (hnew k r hr).2.1
  have hb : ∀ b, stab w0 st.rows st.x L w.heap b → stab w0 (new ++ rows1) X' L' w'.heap b ∧ w'.heap[b]? = w.heap[b]? := fun b hb => by
    refine ⟨⟨Nat.lt_of_lt_of_le hb.1 hsize, ⟨hb.2.1.1, (hstab b hb).2⟩, fun k hk => ?_⟩, (hstab b hb).1⟩
    rcases hlive k hk with h | h
    · have := hnl k h; have := hb.1; omega
    · rw [hLold k h]; exact hb.2.2 k h
  refine ⟨s.defers, s.size, fun t => (s.tmps t).env hb hold hnk, fun k r hr => ?_, fun k k' hk hk' he => ?_, fun k hk => ?_, s.below.step hos htape hout hsize hunder, Nat.lt_of_lt_of_le s.pos hnk, fun b c h => ?_, hX⟩
  · rw [look_append] at hr
    cases h : look new k with
    | some r' =>
      rw [h] at hr; cases hr
      obtain ⟨h1, h2, h3, h4⟩ := hnew k r h
      exact ⟨h1, .inl (Nat.le_trans s.below.size h2), h3, h4⟩
    | none =>
      rw [h] at hr
      replace hr : look rows1 k = some r := hr
      have hl : liveIn st.rows k := hlive1 k (by unfold liveIn; rw [hr]; rfl)
      obtain ⟨r0, hr0⟩ := Option.isSome_iff_exists.1 hl
      obtain ⟨_, h2, _, _⟩ := s.rows k r0 hr0
      obtain ⟨g1, g3, g4⟩ := hrow1 k r hr
      obtain ⟨e1, e2, e3, e4⟩ := hold k (s.keys k hl)
      rw [e1, e2, e3, e4]
      exact ⟨g1, h2, g3, g4⟩
  · rcases hlive k hk with h | h <;> rcases hlive k' hk' with h' | h'
    · exact hinj k k' h h' he
    · have := hnl k h; have := hlt k' h'; rw [hLold k' h'] at he; omega
    · have := hnl k' h'; have := hlt k h; rw [hLold k h] at he; omega
    · rw [hLold k h, hLold k' h'] at he; exact s.inj k k' h h' he
  · rcases hlive k hk with h | h
    · exact (hkeys k h).2
    · exact Nat.lt_of_lt_of_le (s.keys k h) hnk
  · obtain ⟨h1, h2⟩ := s.pin b c h
    obtain ⟨e1, e2, _⟩ := hold 0 s.pos
    exact ⟨e1.trans h1, e2.trans h2⟩

/-- What a call leaves that wrote known blocks and the row of its first argument. -/
def meRows : Option (Nat × Row) → List (Nat × Row)
  | none => []
  | some p => [p]
def newS' (w w' : World) (N : Nat → Prop) (X' : Frag) (rs : RV) (bl : Nat → Nat) (b : Nat) : Prop := b < w'.heap.size ∧ (N b ∨ w.heap.size ≤ b) ∧ X' b = none ∧ ∀ i, freshAt rs i → bl i ≠ b
theorem SRL.afterY {st : St} {w0 : Bs} {a : Act} {w w' : World} {L cp sz ln bl bc : Nat → Nat} {me : Option (Nat × Row)} {X' : Frag} {rs : RV} {v : Value} (s : SRL w0 st a w L cp sz ln)
    (hun : Under ⟨w, stab w0 st.rows st.x L w.heap, fun b => st.x b ≠ none ∨ ∃ p, me = some p ∧ b = L p.1, none⟩ w')
    (hX : ∀ b o, X' b = some o → w'.heap[b]? = some o ∧ (st.x b ≠ none ∨ w.heap.size ≤ b))
    (hme : ∀ p, me = some p → ∃ r, look st.rows p.1 = some r ∧ p.2.sz = r.sz ∧ p.2.els.length = r.els.length ∧ RowR w'.heap (newS' w w' (stab w0 st.rows st.x L w.heap) X' rs bl) (L p.1) (cp p.1) p.2)
    (hrr : RRL w w' (fun _ => False) rs v bl bc) (hfx : ∀ i, freshAt rs i → X' (bl i) = none) (hpl : ∀ r ∈ rs, rv1Ok r) :
    ∃ L' cp' sz' ln', SRL w0 (({ st with rows := meRows me ++ st.rows, x := X' } : St).bound rs) a w' L' cp' sz' ln' ∧
      MR (({ st with rows := meRows me ++ st.rows, x := X' } : St).bound rs).nk w'.heap (stab w0 (({ st with rows := meRows me ++ st.rows, x := X' } : St).bound rs).rows X' L' w'.heap) L' cp' sz' ln' (bindM st.nk rs) v := by
  let rowOf (k : Nat) : Row := match rs[k - st.nk]? with | some (.fresh r) => r | _ => ⟨0, 0, []⟩
  let L' := fun k => if k < st.nk then L k else bl (k - st.nk)
  let cp' := fun k => if k < st.nk then cp k else bc (k - st.nk)
  let sz' := fun k => if k < st.nk then sz k else (rowOf k).sz
  let ln' := fun k => if k < st.nk then ln k else (rowOf k).els.length
  have hmel : ∀ k, liveIn (meRows me) k → ∃ p, me = some p ∧ p.1 = k := fun k hk => by
    cases me with
    | none => cases hk
    | some p =>
      unfold liveIn meRows at hk
      rw [look_cons] at hk
      by_cases h : p.1 = k
      · exact ⟨p, rfl, h⟩
      · rw [if_neg h] at hk; cases hk
  have hlive1 : ∀ k, liveIn (meRows me ++ st.rows) k → liveIn st.rows k := fun k hk => by
    unfold liveIn at hk
    rw [look_append] at hk
    cases h : look (meRows me) k with
    | none => rw [h] at hk; exact hk
    | some r =>
      obtain ⟨p, h1, h2⟩ := hmel k (by unfold liveIn; rw [h]; rfl)
      obtain ⟨r, hr, _⟩ := hme p h1
      rw [h2] at hr
      unfold liveIn; rw [hr]; rfl
  have hXlt : ∀ b, b < w.heap.size → st.x b = none → X' b = none := fun b hb hx => by
    cases h : X' b with
    | none => rfl
    | some o =>
      rcases (hX b o h).2 with h' | h'
      · exact (h' hx).elim
      · omega
  have hXlive : ∀ k, liveIn st.rows k → X' (L k) = none := fun k hk => hXlt _ (s.live_lt hk) (s.frag_live (st := st) hk)
  have hstab : ∀ b, stab w0 st.rows st.x L w.heap b → w'.heap[b]? = w.heap[b]? ∧ X' b = none := fun b hb =>
    ⟨hun.block b hb.1 (fun h => by
      rcases h with h | ⟨p, h1, h2⟩
      · exact h hb.2.1.2
      · obtain ⟨r, hr, _⟩ := hme p h1
        exact hb.2.2 p.1 (by unfold liveIn; rw [hr]; rfl) h2.symm), hXlt b hb.1 hb.2.1.2⟩
  have hmeown : ∀ p, me = some p → w0.own p.1 (L p.1) := fun p hp => by
    obtain ⟨r, hr, _⟩ := hme p hp
    exact (s.rows p.1 r hr).2.1
  have hliveN : ∀ k, liveIn (bindRows st.nk rs ++ (meRows me ++ st.rows)) k → (st.nk ≤ k ∧ freshAt rs (k - st.nk) ∧ L' k = bl (k - st.nk)) ∨ (liveIn st.rows k ∧ L' k = L k) := fun k hk => by
    unfold liveIn at hk
    rw [look_append] at hk
    cases h : look (bindRows st.nk rs) k with
    | some r =>
      obtain ⟨h1, h2⟩ := look_bindRows _ _ _ _ h
      have hnl : ¬ k < st.nk := by omega
      exact .inl ⟨h1, ⟨r, h2⟩, by simp only [L', hnl, if_false]⟩
    | none =>
      rw [h] at hk
      have hl := hlive1 k hk
      have hlt := s.keys k hl
      exact .inr ⟨hl, by simp only [L', hlt, if_true]⟩
  have hgoto : ∀ b, newS' w w' (stab w0 st.rows st.x L w.heap) X' rs bl b → stab w0 (bindRows st.nk rs ++ (meRows me ++ st.rows)) X' L' w'.heap b := fun b ⟨h1, h2, h3, h4⟩ => by
    refine ⟨h1, ⟨?_, h3⟩, fun k hk => ?_⟩
    · rcases h2 with h | h
      · exact h.2.1.1
      · exact .inr (Nat.le_trans s.below.size h)
    · rcases hliveN k hk with ⟨_, hf, e⟩ | ⟨hl, e⟩
      · rw [e]; exact h4 _ hf
      · rw [e]
        rcases h2 with h | h
        · exact h.2.2 k hl
        · have := s.live_lt (st := st) hl; omega
  have hadd := s.addX (new := bindRows st.nk rs) (rows1 := meRows me ++ st.rows) (nk' := st.nk + rs.length) (X' := X') (L' := L') (cp' := cp') (sz' := sz') (ln' := ln') hun.os hun.tape hun.output hun.size hlive1 hstab
    (fun b hb hM => hun.block b (Nat.lt_of_lt_of_le hb s.below.size) (fun h => by
      rcases h with h | ⟨p, h1, h2⟩
      · cases hx : st.x b with
        | none => exact h hx
        | some o =>
          rcases (s.frag b o hx).2.1 with h' | h'
          · omega
          · exact hM h'
      · rw [h2] at hb hM
        rcases hmeown p h1 with h' | h'
        · omega
        · exact hM h'.2))
    (fun k hk => by simp [L', cp', sz', ln', hk])
    (fun k hk => by
      obtain ⟨r, hr⟩ := Option.isSome_iff_exists.1 hk
      obtain ⟨h1, h2⟩ := look_bindRows _ _ _ _ hr
      have := (List.getElem?_eq_some_iff.1 h2).1
      exact ⟨h1, by omega⟩) (by omega)
    (fun k r hk => by
      rw [look_append] at hk
      cases h : look (meRows me) k with
      | some r' =>
        rw [h] at hk; cases hk
        obtain ⟨p, h1, h2⟩ := hmel k (by unfold liveIn; rw [h]; rfl)
        obtain ⟨r0, hr0, e1, e2, hrow⟩ := hme p h1
        have hp2 : p.2 = r := by
          subst h1
          unfold meRows at h
          rw [look_cons, if_pos h2] at h
          exact Option.some.inj h
        rw [h2] at hr0 hrow
        rw [hp2] at e1 e2 hrow
        obtain ⟨_, _, g3, g4⟩ := s.rows k r0 hr0
        exact ⟨hrow.mono (fun b hb => ⟨hgoto b hb, rfl⟩) rfl, by rw [g3, e1], by rw [g4, e2]⟩
      | none =>
        rw [h] at hk
        replace hk : look st.rows k = some r := hk
        obtain ⟨g1, g2, g3, g4⟩ := s.rows k r hk
        have hl : liveIn st.rows k := by unfold liveIn; rw [hk]; rfl
        have hblk : w'.heap[L k]? = w.heap[L k]? := hun.block (L k) g1.lt (fun hh => by
          rcases hh with hh | ⟨p, h1, h2⟩
          · exact hh (s.frag_live (st := st) hl)
          · obtain ⟨r0, hr0, _⟩ := hme p h1
            have := s.inj k p.1 hl (by simp [St.live, liveIn, hr0]) h2
            have hlk : look (meRows me) k = some p.2 := by rw [h1]; unfold meRows; rw [look_cons, if_pos this.symm]
            rw [h] at hlk; cases hlk)
        exact ⟨g1.mono (fun b hb => ⟨hgoto b ⟨Nat.lt_of_lt_of_le hb.1 hun.size, .inl hb, (hstab b hb).2, fun i hf e => by
          obtain ⟨rr, hrr'⟩ := hf
          have := (hrr.fresh i rr hrr').1
          have := hb.1
          omega⟩, (hstab b hb).1⟩) hblk, g3, g4⟩)
    (fun k r hk => by
      obtain ⟨h1, h2⟩ := look_bindRows _ _ _ _ hk
      obtain ⟨h3, h4⟩ := hrr.fresh _ _ h2
      have hnl : ¬ k < st.nk := by omega
      have hro : rowOf k = r := by simp only [rowOf, h2]
      refine ⟨?_, ?_, ?_, ?_⟩
      · simp only [L', cp', hnl, if_false]
        exact h4.sc (h' := w'.heap) (hpl _ (List.mem_of_getElem? h2))
      · simp only [L', hnl, if_false]; exact h3
      · simp only [sz', hnl, if_false, hro]
      · simp only [ln', hnl, if_false, hro])
    (fun k k' hk hk' he => by
      obtain ⟨r, hr⟩ := Option.isSome_iff_exists.1 hk
      obtain ⟨r', hr'⟩ := Option.isSome_iff_exists.1 hk'
      obtain ⟨h1, h2⟩ := look_bindRows _ _ _ _ hr
      obtain ⟨h1', h2'⟩ := look_bindRows _ _ _ _ hr'
      have hnl : ¬ k < st.nk := by omega
      have hnl' : ¬ k' < st.nk := by omega
      simp only [L', hnl, hnl', if_false] at he
      have := hrr.inj _ _ ⟨r, h2⟩ ⟨r', h2'⟩ he
      omega)
    (fun b o hx => by
      obtain ⟨h1, h2⟩ := hX b o hx
      refine ⟨h1, ?_, fun k hk e => ?_⟩
      · rcases h2 with h | h
        · cases hs : st.x b with
          | none => exact (h hs).elim
          | some o' => exact (s.frag b o' hs).2.1
        · exact .inl (Nat.le_trans s.below.size h)
      · rcases hliveN k hk with ⟨_, hf, e'⟩ | ⟨hl, e'⟩
        · have := hfx _ hf
          rw [← e', e, hx] at this; cases this
        · have := hXlive k hl
          rw [← e', e, hx] at this; cases this)
  refine ⟨L', cp', sz', ln', hadd, ?_⟩
  have hone : ∀ (i : Nat) r m u, rs[i]? = some r → m = (match r with | .p x => MV.p x | .fresh _ => .own (st.nk + i)) → R1 w'.heap (newS w w' (fun _ => False) rs bl) bl bc i r u → MR1 (st.nk + rs.length) w'.heap (stab w0 (bindRows st.nk rs ++ (meRows me ++ st.rows)) X' L' w'.heap) L' cp' sz' ln' m u := by
    intro i r m u hi hm hR
    have hlt := (List.getElem?_eq_some_iff.1 hi).1
    cases r with
    | p x =>
      subst hm
      obtain ⟨v', hv'⟩ := Option.isSome_iff_exists.1 (show x.val.isSome = true from hpl _ (List.mem_of_getElem? hi))
      have hR' : VR w'.heap (newS w w' (fun _ => False) rs bl) x u := hR
      rw [VR.of_val hv' hR']; exact VR.of_val_mk hv'
    | fresh x =>
      subst hm
      have hnl : ¬ st.nk + i < st.nk := by omega
      have hro : rowOf (st.nk + i) = x := by simp only [rowOf, Nat.add_sub_cancel_left, hi]
      refine ⟨?_, by omega⟩
      simp only [L', cp', ln', hnl, if_false, Nat.add_sub_cancel_left, hro]
      exact hR
  show MR (st.nk + rs.length) w'.heap (stab w0 (bindRows st.nk rs ++ (meRows me ++ st.rows)) X' L' w'.heap) L' cp' sz' ln' (bindM st.nk rs) v
  unfold bindM
  split
  · rename_i m hm
    have hl : rs.length = 1 := by rw [← bindMs_length rs st.nk, hm]; rfl
    obtain ⟨r, hr⟩ : ∃ r, rs = [r] := List.length_eq_one_iff.1 hl
    have hR := hrr.one r hr
    obtain ⟨r', hr', hm'⟩ := bindMs_get rs st.nk 0 m (by rw [hm]; rfl)
    have : r' = r := by rw [hr] at hr'; simpa using hr'.symm
    subst this
    have h1 := hone 0 r' m v hr' hm' hR
    cases m with
    | p m => exact h1
    | own k => exact h1
    | loc k i j => exact h1
    | win k i n => exact h1
    | undef => exact h1
    | tup xs => exact h1.elim
  · rename_i hne
    have hl : rs.length ≠ 1 := fun h => by
      obtain ⟨m, hm⟩ := List.length_eq_one_iff.1 (show (bindMs st.nk rs).length = 1 by rw [bindMs_length]; exact h)
      exact hne m hm
    obtain ⟨av, hv, hlen, hall⟩ := hrr.many hl
    refine ⟨av, hv, by rw [bindMs_length, hlen], fun i m u hm hu => ?_⟩
    obtain ⟨r, hr, hm'⟩ := bindMs_get rs st.nk i m hm
    exact hone i r m u hr hm' (hall i r u hr hu)
end Go.Lo
namespace Go.Lo
open Go.RowKit

inductive Me where
  | no
  | sl (r : Row)
  | pt (r : Row)
def Me.row : Me → Option Row
  | .no => none
  | .sl r => some r
  | .pt r => some r
def meVals : Me → Nat → Nat → Array Value
  | .no, _, _ => #[]
  | .sl r, b, cp => #[.slice (some ⟨b, 0, none⟩) r.els.length cp]
  | .pt _, b, _ => #[.pointer (some ⟨b, 0, none⟩)]
def meN : Me → Nat
  | .no => 0
  | _ => 1
theorem meVals_size (me : Me) (b cp : Nat) : (meVals me b cp).size = meN me := by cases me <;> rfl
theorem meN_row {me : Me} {r : Row} (h : me.row = some r) : meN me = 1 := by cases me <;> first | cases h; done | rfl

def meM (me : Me) (X : Frag) (b c : Nat) : Prop := X c ≠ none ∨ (me.row.isSome = true ∧ c = b)
def YO (P : Program) (f : FuncId) (me : Me) (args : List PV) (X : Frag) (K : Option Row → Frag → RV → Prop) : Prop :=
  ∀ w S b cp vals, (∀ c o, X c = some o → w.heap[c]? = some o) → (∀ c, S c → X c = none) →
    (∀ r, me.row = some r → ¬ S b ∧ X b = none ∧ RowR w.heap (fun x => x < w.heap.size ∧ S x) b cp r) → ArgsR w S args vals →
    Calls P f (meVals me b cp ++ vals) w (fun e w' => ∃ v me' X' rs bl bc, e = .returned v ∧ K me' X' rs ∧ Under ⟨w, S, meM me X b, none⟩ w' ∧
      (∀ c o, X' c = some o → w'.heap[c]? = some o ∧ (X c ≠ none ∨ w.heap.size ≤ c)) ∧
      (∀ r, me.row = some r → ∃ r', me' = some r' ∧ r'.sz = r.sz ∧ r'.els.length = r.els.length ∧ RowR w'.heap (newS' w w' S X' rs bl) b cp r') ∧
      RRL w w' (fun _ => False) rs v bl bc ∧ (∀ i, freshAt rs i → X' (bl i) = none) ∧ ∀ r ∈ rs, rv1Ok r)
abbrev YCt := Me → List PV → Frag → (Option Row → Frag → RV → Prop) → Prop
def YHolds (P : Program) (f : FuncId) (c : YCt) : Prop := CallOk P f ∧ ∀ me args X K, c me args X K → YO P f me args X K

def initY (N : Nat) (me : Me) (args : List PV) (X : Frag) : St := match me with
  | .no => { n := N, nk := 1, t := initT 0 args, rows := [], x := X }
  | .sl r => { n := N, nk := 1, t := (0, .own 0) :: initT 1 args, rows := [(0, r)], x := X }
  | .pt r => { n := N, nk := 1, t := (0, .loc 0 0 0) :: initT 1 args, rows := [(0, r)], x := X }

def rlB (st : St) (rl : List ResultVar) : Bool := (keysL st rl).all (fun k => !Nat.beq k 0)
structure FinYs {P : Program} (tt : Tab P) (rl : List ResultVar) (me : Me) (K : Option Row → Frag → RV → Prop) (st : St) (rs : RV) : Prop where
  ok : ResOk tt rl rs st
  pl : ∀ r ∈ rs, rv1Ok r
  me : ∀ r, me.row = some r → ∃ r', look st.rows 0 = some r' ∧ r'.sz = r.sz ∧ r'.els.length = r.els.length
  no0 : rlB st rl = true
  K : K (look st.rows 0) st.x rs
def FinY {P : Program} (tt : Tab P) (rl : List ResultVar) (me : Me) (K : Option Row → Frag → RV → Prop) : Exit → St → Prop
  | .ret, st => ∃ rs, FinYs tt rl me K st rs
  | .normal, st => ∃ rs, FinYs tt rl me K st rs
  | _, _ => False

def meBs (w : World) (S : Nat → Prop) (me : Me) (X : Frag) (b cp : Nat) : Bs := ⟨w, S, meM me X b, match me.row with | some _ => some (b, cp) | none => none⟩

theorem SR.initY {w : World} {S : Nat → Prop} {b cp N : Nat} {me : Me} {args : List PV} {vals : Array Value} {X : Frag} (hX : ∀ c o, X c = some o → w.heap[c]? = some o) (hS : ∀ c, S c → X c = none)
    (hme : ∀ r, me.row = some r → ¬ S b ∧ X b = none ∧ RowR w.heap (fun x => x < w.heap.size ∧ S x) b cp r) (hA : ArgsR w S args vals) (hN : args.length + meN me ≤ N) :
    SR (meBs w S me X b cp) (Lo.initY N me args X) { tmps := (meVals me b cp ++ vals) ++ Array.replicate (N - (meVals me b cp ++ vals).size) Go.undef, defers := [] } w := by
  obtain ⟨hl, hall⟩ := hA
  have hx : (Lo.initY N me args X).x = X := by cases me <;> rfl
  have hnn : (Lo.initY N me args X).n = N := by cases me <;> rfl
  have hnk : (Lo.initY N me args X).nk = 1 := by cases me <;> rfl
  have hrows : (Lo.initY N me args X).rows = (match me.row with | some r => [(0, r)] | none => []) := by cases me <;> rfl
  have hlive : ∀ k, liveIn (Lo.initY N me args X).rows k → k = 0 ∧ ∃ r, me.row = some r := fun k hk => by
    rw [hrows] at hk
    cases h : me.row with
    | none => rw [h] at hk; cases hk
    | some r =>
      rw [h] at hk
      unfold liveIn at hk
      dsimp only at hk
      rw [look_cons] at hk
      by_cases h0 : 0 = k
      · exact ⟨h0.symm, r, rfl⟩
      · rw [if_neg h0] at hk; cases hk
  have hst : ∀ x, x < w.heap.size ∧ S x → stab (meBs w S me X b cp) (Lo.initY N me args X).rows (Lo.initY N me args X).x (fun _ => b) w.heap x ∧ w.heap[x]? = w.heap[x]? := fun x hx' =>
    ⟨⟨hx'.1, ⟨.inl hx'.2, by rw [hx]; exact hS x hx'.2⟩, fun k hk e => by
      obtain ⟨_, r, hr⟩ := hlive k hk
      have e' : b = x := e
      subst e'
      exact (hme r hr).1 hx'.2⟩, rfl⟩
  let sz0 : Nat := match me.row with | some r => r.sz | none => 0
  let ln0 : Nat := match me.row with | some r => r.els.length | none => 0
  have hsz : (meVals me b cp).size = meN me := meVals_size me b cp
  -- a plain argument
  have harg : ∀ t m, look (initT (meN me) args) t = some m → MR 1 w.heap (stab (meBs w S me X b cp) (Lo.initY N me args X).rows (Lo.initY N me args X).x (fun _ => b) w.heap) (fun _ => b) (fun _ => cp) (fun _ => sz0) (fun _ => ln0) m
      (((meVals me b cp ++ vals) ++ Array.replicate (N - (meVals me b cp ++ vals).size) Go.undef).getD t Go.undef) := fun t m hm => by
    obtain ⟨ht, x, hx', rfl⟩ := look_initT _ _ _ _ hm
    have hlt : t - meN me < vals.size := by rw [← hl]; exact (List.getElem?_eq_some_iff.1 hx').1
    have hv := hall (t - meN me) x vals[t - meN me] hx' (by simp [hlt])
    have he : ((meVals me b cp ++ vals) ++ Array.replicate (N - (meVals me b cp ++ vals).size) Go.undef).getD t Go.undef = vals[t - meN me] := by
      have h1 : t < (meVals me b cp ++ vals).size := by rw [Array.size_append, hsz]; omega
      rw [Array.getD_eq_getD_getElem?, Array.getElem?_append_left h1, Array.getElem?_append_right (by rw [hsz]; exact ht), hsz]
      simp [hlt]
    rw [he]
    exact VR.mono hv hst
  refine ⟨fun _ => b, fun _ => cp, fun _ => sz0, fun _ => ln0, rfl, ?_, fun t => ?_, fun k r' hr => ?_, fun k k' hk hk' _ => by rw [(hlive k hk).1, (hlive k' hk').1], fun k hk => by rw [(hlive k hk).1, hnk]; exact Nat.one_pos, ⟨rfl, rfl, rfl, Nat.le_refl _, fun _ _ _ => rfl⟩, by rw [hnk]; exact Nat.one_pos, (fun b' c h => ?_), fun c o h => ?_⟩
  · rw [hnn]; simp only [Array.size_append, hsz, Array.size_replicate]; omega
  · rw [hnk]
    unfold St.get
    cases me with
    | no =>
      cases h : look (initT 0 args) t with
      | none =>
        have : (look (Lo.initY N .no args X).t t).getD (.p .any) = .p .any := by simp [Lo.initY, h]
        rw [this]; exact VR.any
      | some m =>
        have : (look (Lo.initY N .no args X).t t).getD (.p .any) = m := by simp [Lo.initY, h]
        rw [this]; exact harg t m h
    | sl r =>
      have hg : (look (Lo.initY N (.sl r) args X).t t).getD (.p .any) = if 0 = t then MV.own 0 else (look (initT 1 args) t).getD (.p .any) := by
        simp only [Lo.initY, look_cons]
        by_cases h0 : 0 = t
        · simp [h0]
        · simp [h0]
      rw [hg]
      by_cases h0 : 0 = t
      · subst h0
        rw [if_pos rfl]
        refine ⟨?_, Nat.one_pos⟩
        rw [Array.getD_eq_getD_getElem?, Array.getElem?_append_left (by simp [meVals]; omega), Array.getElem?_append_left (by simp [meVals])]
        rfl
      · rw [if_neg h0]
        cases h : look (initT 1 args) t with
        | none => exact VR.any
        | some m => exact harg t m h
    | pt r =>
      have hg : (look (Lo.initY N (.pt r) args X).t t).getD (.p .any) = if 0 = t then MV.loc 0 0 0 else (look (initT 1 args) t).getD (.p .any) := by
        simp only [Lo.initY, look_cons]
        by_cases h0 : 0 = t
        · simp [h0]
        · simp [h0]
      rw [hg]
      by_cases h0 : 0 = t
      · subst h0
        rw [if_pos rfl]
        refine ⟨?_, Nat.one_pos⟩
        rw [Array.getD_eq_getD_getElem?, Array.getElem?_append_left (by simp [meVals]; omega), Array.getElem?_append_left (by simp [meVals])]
        simp [meVals]
      · rw [if_neg h0]
        cases h : look (initT 1 args) t with
        | none => exact VR.any
        | some m => exact harg t m h
  · obtain ⟨hk0, r, hr0⟩ := hlive k (by unfold liveIn; rw [hr]; rfl)
    subst hk0
    have : r = r' := by
      rw [hrows, hr0] at hr
      simpa [look_cons] using hr
    subst this
    refine ⟨(hme r hr0).2.2.mono hst rfl, .inr ⟨rfl, .inr ⟨by rw [hr0]; rfl, rfl⟩⟩, ?_, ?_⟩
    · simp only [sz0, hr0]
    · simp only [ln0, hr0]
  · unfold meBs at h
    dsimp only at h
    cases hr : me.row with
    | none => rw [hr] at h; cases h
    | some r => rw [hr] at h; cases h; exact ⟨rfl, rfl⟩
  · rw [hx] at h
    refine ⟨hX c o h, .inr (.inl (by rw [h]; simp)), fun k hk e => ?_⟩
    obtain ⟨_, r, hr⟩ := hlive k hk
    have e' : b = c := e
    subst e'
    rw [(hme r hr).2.1] at h; cases h

/-- Results, from a state. -/
theorem SRL.results {P : Program} {tt : Tab P} {fn : Func} {rl : List ResultVar} (hr : fn.results = rl.toArray) {rs : RV} {st : St} {a : Act} {w : World} {B : Bs} {L cp sz ln : Nat → Nat} (s : SRL B st a w L cp sz ln) (h : ResOk tt rl rs st) (hpl : ∀ r ∈ rs, rv1Ok r)
    (h0 : rlB st rl = true) :
    a.defers = [] ∧ ∃ v bl bc, (results fn a.tmps).run P w = .ok v w ∧ RRL B.w w (fun _ => False) rs v bl bc ∧ ∀ i, freshAt rs i → ∃ k, st.live k ∧ L k = bl i := by
  obtain ⟨hlen, hget⟩ := resL_get rl rs h.eq
  have hex : ∀ (i : Nat), i < rl.length → ∃ v, (∀ x, rl[i]? = some x → (res1 a x).run P w = .ok v w) ∧ ∀ x r, rl[i]? = some x → rs[i]? = some r →
      (match r with | .p m => VR w.heap (stab B st.rows st.x L w.heap) m v | .fresh row => ∃ k, keyOf st x = some k ∧ look st.rows k = some row ∧ v = .slice (some ⟨L k, 0, none⟩) row.els.length (cp k)) := by
    intro i hi
    obtain ⟨r, hr1, hr2⟩ := hget i rl[i] (by simp [hi])
    obtain ⟨v, hv1, hv2⟩ := s.res tt hr2 (List.all_eq_true.1 h.cells _ (List.getElem_mem hi))
    refine ⟨v, fun x hx => ?_, fun x r' hx hr' => ?_⟩
    · have : rl[i] = x := by simpa [hi] using hx
      subst this
      rw [← hv1]; unfold res1; split <;> rfl
    · have : rl[i] = x := by simpa [hi] using hx
      subst this
      rw [hr1] at hr'; cases hr'
      exact hv2
  let vAt (i : Nat) : Value := if hi : i < rl.length then Classical.choose (hex i hi) else Go.undef
  have hvAt : ∀ (i : Nat) (hi : i < rl.length), (∀ x, rl[i]? = some x → (res1 a x).run P w = .ok (vAt i) w) ∧ ∀ x r, rl[i]? = some x → rs[i]? = some r →
      (match r with | .p m => VR w.heap (stab B st.rows st.x L w.heap) m (vAt i) | .fresh row => ∃ k, keyOf st x = some k ∧ look st.rows k = some row ∧ vAt i = .slice (some ⟨L k, 0, none⟩) row.els.length (cp k)) := fun i hi => by
    have := Classical.choose_spec (hex i hi)
    simp only [vAt, hi, dif_pos]
    exact this
  have hrun := results_run (P := P) hr (a := a) (w := w) (vs := (List.range rl.length).map vAt) (by simp) (fun i x v hx hv => by
    have hi : i < rl.length := (List.getElem?_eq_some_iff.1 hx).1
    have : vAt i = v := by simpa [hi] using hv
    subst this
    exact (hvAt i hi).1 x hx)
  let kAt (i : Nat) : Nat := ((rl[i]?).bind (keyOf st)).getD 0
  have hfr : ∀ (i : Nat) row, rs[i]? = some (.fresh row) → look st.rows (kAt i) = some row ∧ vAt i = .slice (some ⟨L (kAt i), 0, none⟩) row.els.length (cp (kAt i)) ∧ ∃ x, rl[i]? = some x ∧ keyOf st x = some (kAt i) := by
    intro i row hi
    have hi' : i < rl.length := by rw [hlen]; exact (List.getElem?_eq_some_iff.1 hi).1
    have hx : rl[i]? = some rl[i] := by simp [hi']
    obtain ⟨k, hk1, hk2, hk3⟩ := (hvAt i hi').2 _ _ hx hi
    have : kAt i = k := by simp only [kAt, hx, Option.bind_some, hk1, Option.getD_some]
    rw [this]
    exact ⟨hk2, hk3, _, hx, hk1⟩
  have hne0 : ∀ (i : Nat) row, rs[i]? = some (.fresh row) → kAt i ≠ 0 := fun i row hi e => by
    obtain ⟨_, _, x, hx, hk⟩ := hfr i row hi
    have hm : kAt i ∈ keysL st rl := List.mem_filterMap.2 ⟨x, List.mem_of_getElem? hx, hk⟩
    have := List.all_eq_true.1 h0 _ hm
    rw [e] at this; simp at this
  have hnew : ∀ (i : Nat) row, rs[i]? = some (.fresh row) → B.w.heap.size ≤ L (kAt i) := fun i row hi => by
    obtain ⟨h1, _, _⟩ := hfr i row hi
    obtain ⟨_, h3, _⟩ := s.rows _ _ h1
    rcases h3 with h | h
    · exact h
    · exact absurd h.1 (hne0 i row hi)
  have hR1 : ∀ (i : Nat) r, rs[i]? = some r → R1 w.heap (newS B.w w (fun _ => False) rs (fun i => L (kAt i))) (fun i => L (kAt i)) (fun i => cp (kAt i)) i r (vAt i) := fun i r hi => by
    have hi' : i < rl.length := by rw [hlen]; exact (List.getElem?_eq_some_iff.1 hi).1
    cases r with
    | p m =>
      have h9 : VR w.heap (stab B st.rows st.x L w.heap) m (vAt i) := (hvAt i hi').2 rl[i] _ (by simp [hi']) hi
      obtain ⟨v', hv'⟩ := Option.isSome_iff_exists.1 (show m.val.isSome = true from hpl _ (List.mem_of_getElem? hi))
      show VR _ _ _ _
      rw [VR.of_val hv' h9]; exact VR.of_val_mk hv'
    | fresh row => exact (hfr i row hi).2.1
  refine ⟨s.defers, _, fun i => L (kAt i), fun i => cp (kAt i), hrun, ⟨fun i r hi => ?_, fun i j hi hj he => ?_, fun r hrs => ?_, fun hne => ?_⟩, fun i hi => ?_⟩
  · obtain ⟨h1, _, _⟩ := hfr i r hi
    obtain ⟨h2, h3, _⟩ := s.rows _ _ h1
    exact ⟨hnew i r hi, h2.sc (h' := w.heap) (hpl _ (List.mem_of_getElem? hi))⟩
  · obtain ⟨ri, hi⟩ := hi
    obtain ⟨rj, hj⟩ := hj
    obtain ⟨a1, _, x, hx, hkx⟩ := hfr i ri hi
    obtain ⟨b1, _, y, hy, hky⟩ := hfr j rj hj
    have hk := s.inj _ _ (show liveIn st.rows (kAt i) by unfold liveIn; rw [a1]; rfl) (show liveIn st.rows (kAt j) by unfold liveIn; rw [b1]; rfl) he
    rw [← hk] at hky
    exact distinct_get rl h.keys i j x y _ hx hy hkx hky
  · subst hrs
    have hl1 : rl.length = 1 := by rw [hlen]; rfl
    have h0 := hR1 0 r rfl
    have hp : packV ((List.range rl.length).map vAt) = vAt 0 := by rw [hl1]; rfl
    rw [hp]
    exact h0
  · refine ⟨((List.range rl.length).map vAt).toArray, ?_, by simp [hlen], fun i r u hi hu => ?_⟩
    · have hlen2 : ((List.range rl.length).map vAt).length ≠ 1 := by simpa [hlen] using hne
      generalize (List.range rl.length).map vAt = vs at hlen2
      unfold packV
      split
      · simp at hlen2
      · rfl
    · have hi' : i < rl.length := by rw [hlen]; exact (List.getElem?_eq_some_iff.1 hi).1
      have : vAt i = u := by simpa [hi'] using hu
      subst this
      exact hR1 i r hi
  · obtain ⟨r, hi⟩ := hi
    obtain ⟨h1, _, _⟩ := hfr i r hi
    exact ⟨kAt i, by simp [St.live, liveIn, h1], rfl⟩

theorem YHolds.mk {P : Program} {f : Nat} {fn : Func} {code : Code} {N : Nat} {rl : List ResultVar} {c : YCt} (tt : Tab P) (hf : P.funcs[f]? = some fn) (hb : fn.body = some code) (hn : fn.ntmps = N) (hr : fn.results = rl.toArray)
    (hname : (fn.name == "runtime.NumGoroutine") = false) (h : ∀ me args X K, c me args X K → args.length + meN me ≤ N ∧ Wc P code (FinY tt rl me K) (initY N me args X)) : YHolds P f c := by
  refine ⟨⟨fn, hf, hname, by rw [hb]; rfl⟩, fun me args X K hc => ?_⟩
  obtain ⟨hN, hW⟩ := h me args X K hc
  intro w S b cp vals hX hS hme hA
  refine calls_of_wp hf hb ?_
  rw [hn]
  refine hW _ _ w _ (SR.initY hX hS hme hA hN) fun e st' a' w' hQ hs => ?_
  have key : (∃ rs, FinYs tt rl me K st' rs) → a'.defers = [] ∧ ∃ v, (Go.results fn a'.tmps).run P w' = .ok v w' ∧ ∃ u me' X' rs bl bc, v = u ∧ K me' X' rs ∧ Under ⟨w, S, meM me X b, none⟩ w' ∧
      (∀ c o, X' c = some o → w'.heap[c]? = some o ∧ (X c ≠ none ∨ w.heap.size ≤ c)) ∧
      (∀ r, me.row = some r → ∃ r', me' = some r' ∧ r'.sz = r.sz ∧ r'.els.length = r.els.length ∧ RowR w'.heap (newS' w w' S X' rs bl) b cp r') ∧
      RRL w w' (fun _ => False) rs u bl bc ∧ (∀ i, freshAt rs i → X' (bl i) = none) ∧ ∀ r ∈ rs, rv1Ok r := by
    rintro ⟨rs, h1, h2, h3, h4, h5⟩
    obtain ⟨L, cp', sz, ln, s⟩ := hs
    obtain ⟨d1, v, bl, bc, d2, d3, d4⟩ := s.results hr h1 h2 h4
    have hpin : ∀ r, me.row = some r → L 0 = b ∧ cp' 0 = cp := fun r hr' => s.pin b cp (by unfold meBs; dsimp only; rw [hr'])
    refine ⟨d1, v, d2, v, look st'.rows 0, st'.x, rs, bl, bc, rfl, h5, ⟨s.below.os, s.below.tape, s.below.output, s.below.size, s.below.block⟩, fun c o hc => ?_, fun r hr' => ?_, d3, fun i hi => ?_, h2⟩
    · obtain ⟨f1, f2, f3⟩ := s.frag c o hc
      refine ⟨f1, ?_⟩
      rcases f2 with h | h | ⟨h, e⟩
      · exact .inr h
      · exact .inl h
      · exfalso
        obtain ⟨r, hr'⟩ := Option.isSome_iff_exists.1 h
        obtain ⟨r', hr2, _⟩ := h3 r hr'
        exact f3 0 (by simp [St.live, liveIn, hr2]) (by rw [(hpin r hr').1, e])
    · obtain ⟨r', hr2, e1, e2⟩ := h3 r hr'
      obtain ⟨g1, g2, g3, g4⟩ := s.rows 0 r' hr2
      rw [(hpin r hr').1, (hpin r hr').2] at g1
      refine ⟨r', hr2, e1, e2, g1.mono (fun x hx => ⟨⟨hx.1, ?_, hx.2.1.2, fun i hi e => ?_⟩, rfl⟩) rfl⟩
      · exact hx.2.1.1
      · obtain ⟨k, k1, k2⟩ := d4 i hi
        exact hx.2.2 k k1 (k2.trans e)
    · obtain ⟨k, k1, k2⟩ := d4 i hi
      rw [← k2]; exact s.frag_live k1
  cases e with
  | ret =>
    obtain ⟨h1, v, h2, u, me', X', rs, bl, bc, rfl, h3⟩ := key hQ
    exact ⟨h1, v, h2, v, me', X', rs, bl, bc, rfl, h3⟩
  | normal =>
    obtain ⟨h1, v, h2, u, me', X', rs, bl, bc, rfl, h3⟩ := key hQ
    exact ⟨h1, v, h2, v, me', X', rs, bl, bc, rfl, h3⟩
  | exit id => exact hQ.elim
  | goto l => exact hQ.elim
  | panic ch => exact hQ.elim
  | outgrown => exact hQ.elim

theorem E.mkY {P : Program} {f : Nat} {fn : Func} {code : Code} {N : Nat} {rl : List ResultVar} {c : YCt} (tt : Tab P) (hf : P.funcs[f]? = some fn) (hb : fn.body = some code) (hn : fn.ntmps = N) (hr : fn.results = rl.toArray)
    (hname : (fn.name == "runtime.NumGoroutine") = false) (h : ∀ me args X K, c me args X K → args.length + meN me ≤ N ∧ wcl P tt.l code (FinY tt rl me K) (initY N me args X)) : YHolds P f c :=
  YHolds.mk tt hf hb hn hr hname fun me args X K hc => let ⟨h1, h2⟩ := h me args X K hc; ⟨h1, wcl_sound tt code h2⟩

section
variable {P : Program} {ops : Array Oper} {rest : List Oper} {T : St → Prop} {st : St} {d : Nat} {ty : TypeId} {pos : String} {aft : Array Edge} {f : Nat} {xs : Array Operand} {ats : Array TypeId} {args : List PV} {c : YCt}

theorem E.callY (tt : Tab P) (hH : YHolds P f c) (ha : rdArgs st xs.toList = some args) (hp : argsP st xs.toList = true) (hd : Nat.blt d st.n = true)
    (hk : c .no args st.x (fun _ X' rs => wl false P ops tt.l T rest ((({ st with x := X' } : St).bound rs).put d (bindM st.nk rs)))) :
    W false P ops (⟨some d, .call { callee := .value (.func f), args := xs, argTypes := ats }, ty, pos, aft, none⟩ :: rest) T st := by
  have hd' : d < st.n := by simpa [Nat.blt_eq] using hd
  intro w0 a w Qr hs hT
  obtain ⟨L, cp, sz, ln, s⟩ := hs
  obtain ⟨hl, hall⟩ := s.rdArgsP _ _ hp ha
  have hA : ArgsR w (stab w0 st.rows st.x L w.heap) args (xs.map a.eval) := ⟨by simp [hl], fun i m u hm hu => hall i m u hm (by simpa using hu)⟩
  simp only [wpList, wanted_none, if_true]
  refine .inl ?_
  unfold Oper.wp
  rw [call_run hH.1 a.eval rfl _ rfl]
  simp only [Oper.upon]
  have hc := hH.2 _ _ _ _ hk w (stab w0 st.rows st.x L w.heap) 0 0 (xs.map a.eval) (fun b o h => (s.frag b o h).1) (fun b hb => hb.2.1.2) (fun r h => by cases h) hA
  have he : meVals .no 0 0 ++ xs.map a.eval = xs.map a.eval := by simp [meVals]
  rw [he] at hc
  refine hc.mono ?_
  rintro e w' ⟨v, me', X', rs, bl, bc, rfl, hK, hun, hX', _, hrr, hfx, hpl⟩
  obtain ⟨L', cp', sz', ln', s', hm⟩ := s.afterY (me := none) (X' := X') ⟨hun.os, hun.tape, hun.output, hun.size, fun b hb hM => hun.block b hb (fun h => hM (h.elim .inl (fun h => by cases h.1)))⟩ hX' (fun p hp => by cases hp) hrr hfx hpl
  exact wl_sound tt hK w0 _ w' Qr ⟨L', cp', sz', ln', s'.put (d := d) hd' hm⟩ hT

theorem callMe {x : Operand} {ys : List Operand} {k : Nat} {r : Row} {me : Me} (tt : Tab P) (hme : me.row = some r) (hv : ∀ w0 a w L cp sz ln, SRL w0 st a w L cp sz ln → #[a.eval x] = meVals me (L k) (cp k)) (hH : YHolds P f c) (hxs : xs.toList = x :: ys) (hr : look st.rows k = some r) (ha : rdArgs st ys = some args) (hp : argsP st ys = true) (hd : Nat.blt d st.n = true)
    (hk : c me args st.x (fun me' X' rs => ∀ r', me' = some r' → r'.sz = r.sz → r'.els.length = r.els.length → wl false P ops tt.l T rest ((({ st with rows := (k, r') :: st.rows, x := X' } : St).bound rs).put d (bindM st.nk rs)))) :
    W false P ops (⟨some d, .call { callee := .value (.func f), args := xs, argTypes := ats }, ty, pos, aft, none⟩ :: rest) T st := by
  have hd' : d < st.n := by simpa [Nat.blt_eq] using hd
  intro w0 a w Qr hs hT
  obtain ⟨L, cp, sz, ln, s⟩ := hs
  obtain ⟨hl, hall⟩ := s.rdArgsP _ _ hp ha
  obtain ⟨g1, g2, g3, g4⟩ := s.rows k r hr
  have hklive : liveIn st.rows k := by unfold liveIn; rw [hr]; rfl
  have hA : ArgsR w (stab w0 st.rows st.x L w.heap) args (ys.map a.eval).toArray := ⟨by simp [hl], fun i m u hm hu => hall i m u hm (by simpa using hu)⟩
  have hvals : xs.map a.eval = meVals me (L k) (cp k) ++ (ys.map a.eval).toArray := by
    rw [← hv w0 a w L cp sz ln s]
    apply Array.toList_inj.1
    simp [hxs]
  simp only [wpList, wanted_none, if_true]
  refine .inl ?_
  unfold Oper.wp
  rw [call_run hH.1 a.eval rfl _ rfl]
  simp only [Oper.upon]
  rw [hvals]
  refine (hH.2 _ _ _ _ hk w (stab w0 st.rows st.x L w.heap) (L k) (cp k) _ (fun b o h => (s.frag b o h).1) (fun b hb => hb.2.1.2) (fun r0 h0 => by
    rw [hme] at h0; cases h0
    exact ⟨fun h => h.2.2 k hklive rfl, s.frag_live (st := st) hklive, g1.mono (fun b hb => ⟨⟨hb.1, hb⟩, rfl⟩) rfl⟩) hA).mono ?_
  rintro e w' ⟨v, me', X', rs, bl, bc, rfl, hK, hun, hX', hm', hrr, hfx, hpl⟩
  obtain ⟨r', e1, e2, e3, hrow⟩ := hm' r hme
  obtain ⟨L', cp', sz', ln', s', hm⟩ := s.afterY (me := some (k, r')) (X' := X') ⟨hun.os, hun.tape, hun.output, hun.size, fun b hb hM => hun.block b hb (fun h => hM (h.elim .inl (fun h => .inr ⟨_, rfl, h.2⟩)))⟩ hX' (fun p hp => by
    cases hp
    exact ⟨r, hr, e2, e3, hrow⟩) hrr hfx hpl
  exact wl_sound tt (hK r' e1 e2 e3) w0 _ w' Qr ⟨L', cp', sz', ln', s'.put (d := d) hd' hm⟩ hT

/-- The first argument is a pointer to an own row of one element. -/
theorem E.callYP {x : Operand} {ys : List Operand} {k : Nat} {r : Row} (tt : Tab P) (hH : YHolds P f c) (hxs : xs.toList = x :: ys) (hx : st.ev x = .loc k 0 0) (hr : look st.rows k = some r) (ha : rdArgs st ys = some args) (hp : argsP st ys = true) (hd : Nat.blt d st.n = true)
    (hk : c (.pt r) args st.x (fun me' X' rs => ∀ r', me' = some r' → r'.sz = r.sz → r'.els.length = r.els.length → wl false P ops tt.l T rest ((({ st with rows := (k, r') :: st.rows, x := X' } : St).bound rs).put d (bindM st.nk rs)))) :
    W false P ops (⟨some d, .call { callee := .value (.func f), args := xs, argTypes := ats }, ty, pos, aft, none⟩ :: rest) T st :=
  callMe (me := .pt r) tt rfl (fun w0 a w L cp sz ln s => by
    have := (s.ev_loc hx).1
    rw [this]; simp [meVals]) hH hxs hr ha hp hd hk
/-- The first argument is an own row. -/
theorem E.callYS {x : Operand} {ys : List Operand} {k : Nat} {r : Row} (tt : Tab P) (hH : YHolds P f c) (hxs : xs.toList = x :: ys) (hx : st.ev x = .own k) (hr : look st.rows k = some r) (ha : rdArgs st ys = some args) (hp : argsP st ys = true) (hd : Nat.blt d st.n = true)
    (hk : c (.sl r) args st.x (fun me' X' rs => ∀ r', me' = some r' → r'.sz = r.sz → r'.els.length = r.els.length → wl false P ops tt.l T rest ((({ st with rows := (k, r') :: st.rows, x := X' } : St).bound rs).put d (bindM st.nk rs)))) :
    W false P ops (⟨some d, .call { callee := .value (.func f), args := xs, argTypes := ats }, ty, pos, aft, none⟩ :: rest) T st :=
  callMe (me := .sl r) tt rfl (fun w0 a w L cp sz ln s => by
    have := (s.ev_own hx).1
    rw [this, (s.rows k r hr).2.2.2]; rfl) hH hxs hr ha hp hd hk
end
end Go.Lo
namespace Go.Lo
open Go.RowKit

section
variable {q : Bool} {P : Program} {ops : Array Oper} {rest l0 : List Oper} {T : St → Prop} {st : St} {d : Nat} {pos : String} {aft : Array Edge}

/-- A row of plain values becomes a block that is known as it stands. -/
theorem E.absR (tt : Tab P) (ts : List Nat) {k : Nat} {r : Row} (hts : ∀ t ∈ ts, st.get t = .own k) (hk : look st.rows k = some r) (hk0 : Nat.beq k 0 = false) (hp : r.pl)
    (kk : ∀ b c C, RowC C c r → st.x b = none → wl q P ops tt.l T l0 { n := st.n, nk := st.nk, t := ts.map (fun t => (t, MV.p (.raw (.slice (some ⟨b, 0, none⟩) r.els.length c)))) ++ killT k st.t, rows := delR k st.rows, x := st.x.upd b (.cells C r.ty (0, 0)) }) : W q P ops l0 T st := by
  have key : ∀ w0 a w, SR w0 st a w → ∃ b c C, RowC C c r ∧ st.x b = none ∧ SR w0 { n := st.n, nk := st.nk, t := ts.map (fun t => (t, MV.p (.raw (.slice (some ⟨b, 0, none⟩) r.els.length c)))) ++ killT k st.t, rows := delR k st.rows, x := st.x.upd b (.cells C r.ty (0, 0)) } a w := by
    rintro w0 a w ⟨L, cp, sz, ln, s⟩
    obtain ⟨g1, _, _, g4⟩ := s.rows k _ hk
    obtain ⟨C, hC, hN⟩ := g1.rowC hp
    have hv : ∀ t ∈ ts, a.tmps.getD t Go.undef = .slice (some ⟨L k, 0, none⟩) r.els.length (cp k) := fun t ht => by
      have hv := s.tmps t
      rw [hts t ht] at hv
      rw [hv.1, g4]
    have s' := s.abs hk (fun e => by rw [e] at hk0; cases hk0) hC
    have keyL : ∀ l : List Nat, (∀ t ∈ l, t ∈ ts) → SRL w0 { n := st.n, nk := st.nk, t := l.map (fun t => (t, MV.p (.raw (.slice (some ⟨L k, 0, none⟩) r.els.length (cp k))))) ++ killT k st.t, rows := delR k st.rows, x := st.x.upd (L k) (.cells C r.ty (0, 0)) } a w L cp sz ln := by
      intro l
      induction l with
      | nil => intro _; exact s'
      | cons t l ih =>
        intro hl2
        exact (ih (fun u hu => hl2 u (by simp [hu]))).know' (t := t) (m := .p (.raw (.slice (some ⟨L k, 0, none⟩) r.els.length (cp k)))) (by
          rw [hv t (hl2 t (by simp))]; exact VR.raw)
    exact ⟨L k, cp k, C, hN, s.frag_live (k := k) (by simp [St.live, liveIn, hk]), L, cp, sz, ln, keyL ts (fun _ h => h)⟩
  cases q
  · intro w0 a w Qr hs hT
    obtain ⟨b, c, C, hN, hbx, hs'⟩ := key w0 a w hs
    exact wl_sound tt (kk b c C hN hbx) w0 a w Qr hs' hT
  · intro w0 a w Kr hs hT
    obtain ⟨b, c, C, hN, hbx, hs'⟩ := key w0 a w hs
    exact wl_sound tt (kk b c C hN hbx) w0 a w Kr hs' hT

theorem rd_idxR {x y : Operand} {t ty e z : Nat} {ti : TyI} {k : IntKind} {i : Int} {b o n c : Nat} (tt : Tab P) (h : tt.l.get t = some ti) (hel : ti.el = some (e, z)) (ha : ti.agg = false) (hz : Nat.beq z 0 = false)
    (hx : st.ev x = .p (.raw (.slice (some ⟨b, o, none⟩) n c))) (hy : st.ev y = .p (.int k i)) (h0 : 0 ≤ i) (h1 : i < n) : ReadOp P (.indexAddr t x y) ty st (.p (.raw (.pointer (some ⟨b, o + i.toNat * z, none⟩)))) := fun w0 a w L cp sz ln s => by
  have hz' : z ≠ 0 := fun e => by subst e; cases hz
  have hv : a.eval x = .slice (some ⟨b, o, none⟩) n c := s.ev_val hx (v := .slice (some ⟨b, o, none⟩) n c) rfl
  exact ⟨_, VR.raw, fun op w' ho _ ex => by simp [execOp, ho, hv, s.ev_int hy, indexAt_run tt h hel ha hz' h0 h1]⟩

theorem rd_nilR {x : Operand} {ty b o : Nat} (hx : st.ev x = .p (.raw (.pointer (some ⟨b, o, none⟩)))) : ReadOp P (.nilCheck x) ty st (.p (.raw (.pointer (some ⟨b, o, none⟩)))) := fun w0 a w L cp sz ln s => by
  have hv : a.eval x = .pointer (some ⟨b, o, none⟩) := s.ev_val hx (v := .pointer (some ⟨b, o, none⟩)) rfl
  exact ⟨_, VR.raw, fun op w' ho _ _ => by simp [execOp, ho, hv]⟩

theorem rd_loadR {x : Operand} {t ty b o e : Nat} {fz : Nat × Nat} {i : TyI} {C : Array Value} {u : Value} {m : PV} (tt : Tab P) (h : tt.l.get t = some i) (ha : i.agg = false) (hx : st.ev x = .p (.raw (.pointer (some ⟨b, o, none⟩)))) (hb : st.x b = some (.cells C e fz)) (hC : C[o]? = some u) (hm : m.val = some u) :
    ReadOp P (.load t x) ty st (.p m) := fun w0 a w L cp sz ln s => by
  have hv : a.eval x = .pointer (some ⟨b, o, none⟩) := s.ev_val hx (v := .pointer (some ⟨b, o, none⟩)) rfl
  obtain ⟨f1, _, _⟩ := s.frag b _ hb
  refine ⟨u, VR.of_val_mk hm, fun op w' ho _ ex => ?_⟩
  have hc : w'.cell? ⟨b, o, none⟩ = some u := by
    rw [(ex.resolve_left (by simp [pureB])).cell (lt_of_get f1)]
    simp [hcell, f1, hC]
  simp [execOp, ho, hv, loadAt_one tt h ha hc]

theorem rd_lenR {x : Operand} {t ty e ez n c : Nat} {ao : Option Addr} {ti : TyI} (tt : Tab P) (hT0 : tt.l.get t = some ti) (hT1 : ti.el = some (e, ez)) (hT2 : ti.agg = false) (hx : st.ev x = .p (.raw (.slice ao n c))) :
    ReadOp P (.call { callee := .builtin .len, args := #[x], argTypes := #[t] }) ty st (.p (.int .i64 n)) :=
  len_slice (tt.slice hT0 hT1 hT2).1 fun w0 a w L cp sz ln s => ⟨ao, c, s.ev_val hx (v := .slice ao n c) rfl⟩

theorem set_toArray {C : Array Value} {o : Nat} {v : Value} (ho : o < C.size) : (C.toList.take o ++ [v] ++ C.toList.drop (o + 1)).toArray = C.setIfInBounds o v := by
  apply Array.toList_inj.1
  rw [Array.toList_setIfInBounds, List.set_eq_take_append_cons_drop, if_pos (by simpa using ho)]
  simp

theorem E.storeR (tt : Tab P) {x y : Operand} {t ty b o e : Nat} {i : TyI} {C : Array Value} {v : Value} {m : PV} (h : tt.l.get t = some i) (hsz : i.sz = 1) (hx : st.ev x = .p (.raw (.pointer (some ⟨b, o, none⟩)))) (hy : st.ev y = .p m) (hm : m.val = some v) (hv : v.oneCell' = true) (hb : st.x b = some (.cells C e (0, 0))) (ho : o < C.size)
    (kk : wl false P ops tt.l T rest { st with x := st.x.upd b (.cells (C.setIfInBounds o v) e (0, 0)) }) : W false P ops (⟨none, .store t x y, ty, pos, aft, none⟩ :: rest) T st := by
  intro w0 a w Qr hs hT
  obtain ⟨L, cp, sz, ln, s⟩ := hs
  have hxv : a.eval x = .pointer (some ⟨b, o, none⟩) := s.ev_val hx (v := .pointer (some ⟨b, o, none⟩)) rfl
  have hyv : a.eval y = v := s.ev_val hy hm
  obtain ⟨f1, _, _⟩ := s.frag b _ hb
  have hcells : v.cells = #[v] := by cases v <;> first | rfl | cases hv
  have hrun := storeAt_run (P := P) tt h (b := b) (o := o) (v := v) (by rw [hcells, hsz]; rfl) w
  rw [hcells] at hrun
  have hst := run_storeCells_at P b o e [v] 0 C w f1 (by simp only [List.length_singleton]; omega) (fun u hu => by simp at hu; subst hu; exact hv)
  simp only [Nat.add_zero, List.length_singleton] at hst
  rw [set_toArray ho] at hst
  simp only [wpList, wanted_none, if_true]
  refine .inl ?_
  unfold Oper.wp
  have hex : ∀ (op : Oper), op.op = .store t x y → (execOp a.eval op).run P w = .ok .skip (w.setRow b (C.setIfInBounds o v)) := fun op ho => by
    simp [execOp, ho, hxv, hyv, hrun, hst]
  rw [hex _ rfl]
  simp only [Oper.upon]
  exact wl_sound tt kk w0 _ _ Qr ⟨L, cp, sz, ln, s.wroteX hb rfl rfl rfl (by simp) (setRow_heap w b C _ e _ f1) (fun c hc => setRow_other w b c _ hc)⟩ hT

/-- A cut s[:n] of a known block's slice. -/
theorem rd_cutR {x hi : Operand} {t ty e z b o n c : Nat} {ti : TyI} {k : IntKind} {i : Int} (tt : Tab P) (h : tt.l.get t = some ti) (hel : ti.el = some (e, z)) (ha : ti.agg = false) (hz : Nat.beq z 0 = false)
    (hx : st.ev x = .p (.raw (.slice (some ⟨b, o, none⟩) n c))) (hhi : st.ev hi = .p (.int k i)) (h0 : 0 ≤ i) (h1 : i ≤ c) : ReadOp P (.slice t x none (some hi) none) ty st (.p (.raw (.slice (some ⟨b, o, none⟩) i.toNat c))) := fun w0 a w L cp sz ln s => by
  have hv : a.eval x = .slice (some ⟨b, o, none⟩) n c := s.ev_val hx (v := .slice (some ⟨b, o, none⟩) n c) rfl
  obtain ⟨hu, hse⟩ := tt.slice h hel ha
  have hz' : z ≠ 0 := fun e => by subst e; cases hz
  have hi2 : ∃ inf, P.info? e = some inf ∧ inf.size = z := by
    unfold szOf at hse
    cases hi : P.info? e with
    | none => rw [hi] at hse; exact absurd hse.symm hz'
    | some inf => rw [hi] at hse; exact ⟨inf, rfl, hse⟩
  obtain ⟨inf, hi3, hi4⟩ := hi2
  refine ⟨_, VR.raw, fun op w' ho _ _ => ?_⟩
  have hb := sliceBounds_run (P := P) (len := n) (cap := c) (lo := none) (hi := some i) (k := k) (k' := k) w' (by simp) (by simpa using h0) (by simpa using h1)
  simp only [Option.map_none, Option.map_some, Option.getD_none, Option.getD_some, Int.toNat_zero] at hb
  by_cases hc : c = 0
  · have : i = 0 := by omega
    subst this; subst hc
    simp [execOp, ho, hv, s.ev_int hhi, Instr.sliceAt, Instr.slice, underlying, program, Sem.run, hu, hb, run_sizeOf hi3, hi4]
  · simp [execOp, ho, hv, s.ev_int hhi, Instr.sliceAt, Instr.slice, underlying, program, Sem.run, hu, hb, run_sizeOf hi3, hi4, hc, add_mk]
end
end Go.Lo
namespace Go.Lo
open Go.RowKit

/-- The value v, read through the known blocks X, is m. -/
inductive DeepV (X : Frag) : Value → PV → Prop
  | val {v m} (h : m.val = some v) : DeepV X v m
  | view {sz : Nat} {els : List (List PV)} {b n c e : Nat} {C : Array Value} (U : Nat → Nat → Value) (hx : X b = some (.cells C e (0, 0))) (hn : els.length = n) (hc : n ≤ c) (hsz : ∀ e ∈ els, e.length = sz)
      (hU : ∀ (i : Nat) e (j : Nat) m, els[i]? = some e → e[j]? = some m → C[i * sz + j]? = some (U i j) ∧ (U i j).oneCell' = true)
      (hV : ∀ (i : Nat) e (j : Nat) m, els[i]? = some e → e[j]? = some m → DeepV X (U i j) m) : DeepV X (.slice (some ⟨b, 0, none⟩) n c) (.view sz els)

theorem DeepV.vr {X : Frag} {h : Array Obj} (hX : ∀ b o, X b = some o → h[b]? = some o) {v : Value} {m : PV} (hd : DeepV X v m) : VR h (fun b => b < h.size ∧ True) m v := by
  induction hd with
  | val hm => exact VR.of_val_mk hm
  | @view sz els b n c e C U hx hn hc hsz hU _ ih =>
    have hb := hX _ _ hx
    refine VR.view U hn hc ⟨lt_of_get hb, trivial⟩ hsz (fun i e j m he hm => ?_) ih
    obtain ⟨h1, h2⟩ := hU i e j m he hm
    exact ⟨by simp [hcell, hb, h1], h2⟩

/-- Cells, and what they are when known blocks are read through. -/
def Rf (X : Frag) (m m' : PV) : Prop := m = m' ∨ ∃ v, m = .raw v ∧ DeepV X v m'
def RfE (X : Frag) (els els' : List (List PV)) : Prop := els.length = els'.length ∧ ∀ (i : Nat) e e', els[i]? = some e → els'[i]? = some e' → e.length = e'.length ∧ ∀ (j : Nat) m m', e[j]? = some m → e'[j]? = some m' → Rf X m m'
theorem RfE.get {X : Frag} {els els' : List (List PV)} (h : RfE X els els') {i : Nat} {e' : List PV} {j : Nat} {m' : PV} (he : els'[i]? = some e') (hm : e'[j]? = some m') : ∃ e m, els[i]? = some e ∧ e[j]? = some m ∧ Rf X m m' := by
  have hi : i < els.length := by rw [h.1]; exact (List.getElem?_eq_some_iff.1 he).1
  obtain ⟨h1, h2⟩ := h.2 i els[i] e' (by simp [hi]) he
  have hj : j < (els[i]).length := by rw [h1]; exact (List.getElem?_eq_some_iff.1 hm).1
  exact ⟨els[i], (els[i])[j], by simp [hi], by simp [hj], h2 j _ m' (by simp [hj]) hm⟩
theorem RfE.wid {X : Frag} {els els' : List (List PV)} (h : RfE X els els') {z : Nat} (hw : ∀ e ∈ els, e.length = z) : ∀ e ∈ els', e.length = z := fun e' he' => by
  obtain ⟨i, hi, rfl⟩ := List.mem_iff_getElem.1 he'
  have hi' : i < els.length := by rw [h.1]; exact hi
  rw [← (h.2 i els[i] els'[i] (by simp [hi']) (by simp [hi])).1]
  exact hw _ (List.getElem_mem hi')

theorem RowC.deep {X : Frag} {b c : Nat} {r : Row} {C : Array Value} {els' : List (List PV)} (hx : X b = some (.cells C r.ty (0, 0))) (g : RowC C c r) (h : RfE X r.els els') : DeepV X (.slice (some ⟨b, 0, none⟩) r.els.length c) (.view r.sz els') := by
  have hex : ∀ (i : Nat) e' (j : Nat) m', els'[i]? = some e' → e'[j]? = some m' → ∃ u, C[i * r.sz + j]? = some u ∧ u.oneCell' = true ∧ DeepV X u m' := fun i e' j m' he hm => by
    obtain ⟨e, m, h1, h2, h3⟩ := h.get he hm
    obtain ⟨u, q1, q2, q3⟩ := g.at' i e j m h1 h2
    refine ⟨u, q1, q2, ?_⟩
    rcases h3 with rfl | ⟨v, rfl, hv⟩
    · exact .val q3
    · have : v = u := by simpa [PV.val] using q3
      subst this; exact hv
  refine .view (fun i j => (C[i * r.sz + j]?).getD Go.undef) hx h.1.symm g.le (h.wid g.wid) (fun i e j m he hm => ?_) (fun i e j m he hm => ?_)
  · obtain ⟨u, q1, q2, _⟩ := hex i e j m he hm
    simp only [q1, Option.getD_some]; exact ⟨trivial, q2⟩
  · obtain ⟨u, q1, _, q3⟩ := hex i e j m he hm
    simp only [q1, Option.getD_some]; exact q3
theorem RfE.refl (X : Frag) (els : List (List PV)) : RfE X els els := ⟨rfl, fun i e e' h1 h2 => by rw [h1] at h2; cases h2; exact ⟨rfl, fun j m m' h3 h4 => by rw [h3] at h4; cases h4; exact .inl rfl⟩⟩
theorem Nums.deep {X : Frag} {b c e : Nat} {l : List Int} {C : Array Value} (hx : X b = some (.cells C e (0, 0))) (g : Nums C c l) : DeepV X (.slice (some ⟨b, 0, none⟩) l.length c) (.view 1 (l.map encN)) := by
  have := RowC.deep (r := ⟨e, 1, l.map encN⟩) hx g.rowC (RfE.refl X _)
  simpa using this
theorem DeepV.nil (X : Frag) (sz : Nat) : DeepV X (.slice none 0 0) .nil := .val rfl

theorem VR.rfView {h : Array Obj} {S : Nat → Prop} {X : Frag} {els els' : List (List PV)} {sz : Nat} {v : Value} (hX : ∀ b o, X b = some o → h[b]? = some o) (hS : ∀ b, S b → b < h.size) (hv : VR h S (.view sz els) v) (hr : RfE X els els') : VR h (fun b => b < h.size ∧ True) (.view sz els') v := by
  cases hv with
  | view0 =>
    have : els' = [] := List.eq_nil_of_length_eq_zero (by have := hr.1; simpa using this.symm)
    subst this; exact .view0
  | @view _ _ b off n c U hn hc hSb hsz hU hV =>
    refine VR.view U (by rw [← hr.1]; exact hn) hc ⟨hS _ hSb, trivial⟩ (hr.wid hsz) (fun i e j m he hm => ?_) (fun i e j m he hm => ?_)
    · obtain ⟨e0, m0, h1, h2, _⟩ := hr.get he hm
      exact hU i e0 j m0 h1 h2
    · obtain ⟨e0, m0, h1, h2, h3⟩ := hr.get he hm
      have hv0 := hV i e0 j m0 h1 h2
      rcases h3 with rfl | ⟨v, rfl, hd⟩
      · exact hv0.mono fun b hb => ⟨⟨hS b hb, trivial⟩, rfl⟩
      · have : U i j = v := VR.of_val (u := v) rfl hv0
        rw [this]; exact hd.vr hX

theorem Deep.raw {st : St} {x : Operand} {v : Value} {m : PV} (hx : st.ev x = .p (.raw v)) (h : DeepV st.x v m) : Deep st x m := fun w0 a w L cp sz ln s => by
  rw [s.ev_val hx (v := v) rfl]
  exact h.vr (fun b o hb => (s.frag b o hb).1)
theorem Deep.ownE {st : St} {x : Operand} {k : Nat} {r : Row} {els' : List (List PV)} (hx : st.ev x = .own k) (hr : look st.rows k = some r) (h : RfE st.x r.els els') : Deep st x (.view r.sz els') := fun w0 a w L cp sz ln s => by
  have hm := s.ev x
  rw [hx] at hm
  exact VR.rfView (fun b o hb => (s.frag b o hb).1) (fun b hb => hb.1) (s.rd (m := .own k) (x := .view r.sz r.els) hm (by simp [rdA, hr])) h
theorem Deep.viewE {st : St} {x : Operand} {z : Nat} {els els' : List (List PV)} (hx : st.ev x = .p (.view z els)) (h : RfE st.x els els') : Deep st x (.view z els') := fun w0 a w L cp sz ln s =>
  VR.rfView (fun b o hb => (s.frag b o hb).1) (fun b hb => hb.1) (s.ev_p hx) h

section
variable {q : Bool} {P : Program} {ops : Array Oper} {rest : List Oper} {T : St → Prop} {st : St} {d : Nat} {ty : TypeId} {pos : String} {aft : Array Edge} {f : Nat} {xs : Array Operand} {ats : Array TypeId} {args : List PV} {c : Ct}

/-- A call that reads through known blocks and hands back plain rows. -/
theorem E.callRD (tt : Tab P) (hH : Holds P f c) (ha : Deeps st xs.toList args) (hd : Nat.blt d st.n = true)
    (hk : c args (fun rs => (∀ r ∈ rs, rv1Ok r) ∧ wl false P ops tt.l T rest ((st.bound rs).put d (bindM st.nk rs)))) :
    W false P ops (⟨some d, .call { callee := .value (.func f), args := xs, argTypes := ats }, ty, pos, aft, none⟩ :: rest) T st := by
  have hd' : d < st.n := by simpa [Nat.blt_eq] using hd
  intro w0 a w Qr hs hT
  obtain ⟨L, cp, sz, ln, s⟩ := hs
  obtain ⟨rs, hro, hp, hK⟩ := hH.2 _ _ hk
  simp only [wpList, wanted_none, if_true]
  refine .inl ?_
  unfold Oper.wp
  rw [call_run hH.1 a.eval rfl _ rfl]
  simp only [Oper.upon]
  obtain ⟨hl, hall⟩ := Deeps.get s _ _ ha
  have hA : ArgsR w (fun _ => True) args (xs.map a.eval) := ⟨by simp [hl], fun i m u hm hu => hall i m u hm (by simpa using hu)⟩
  refine (hro w _ _ hA).mono ?_
  rintro e w' ⟨v, rfl, hr, hex⟩
  obtain ⟨L', cp', sz', ln', s', hm⟩ := s.bound hex hr (.inr hp)
  exact wl_sound tt hK w0 _ w' Qr ⟨L', cp', sz', ln', s'.put (show d < (st.bound rs).n from hd') hm⟩ hT
end

/-- The cells that an append takes. -/
theorem SRL.news {st : St} {w0 : Bs} {a : Act} {w : World} {L cp sz ln : Nat → Nat} (s : SRL w0 st a w L cp sz ln) {y : Operand} {z : Nat} {els2 : List (List PV)} (hz : 0 < z) (hne : els2 ≠ []) (hy : rdA st (st.ev y) = some (.view z els2)) :
    ∃ (ad : Addr) (c : Nat) (news : List Value), a.eval y = .slice (some ad) els2.length c ∧ news.length = els2.length * z ∧ (∀ u ∈ news, u.oneCell' = true) ∧
      (∀ (i : Nat) e' (j : Nat) m, els2[i]? = some e' → e'[j]? = some m → ∃ u, news[i * z + j]? = some u ∧ VR w.heap (stab w0 st.rows st.x L w.heap) m u) ∧ (∀ e' ∈ els2, e'.length = z) ∧
      ∀ j u, news[j]? = some u → w.cell? (ad.add j) = some u := by
  rcases s.src (s.ev y) hy with ⟨rfl, _⟩ | ⟨b, off, c, U, hv, hsz, hU, hV⟩
  · exact absurd rfl hne
  · refine ⟨⟨b, off, none⟩, c, (List.range (els2.length * z)).map (fun q => U (q / z) (q % z)), hv, by simp, fun u hu => ?_, fun i e' j m he' hm => ?_, hsz, fun j u hj => ?_⟩
    · simp only [List.mem_map, List.mem_range] at hu
      obtain ⟨q, hq, rfl⟩ := hu
      have hi : q / z < els2.length := Nat.div_lt_of_lt_mul (by rw [Nat.mul_comm]; exact hq)
      have hjl : q % z < (els2[q / z]).length := by rw [hsz _ (List.getElem_mem hi)]; exact Nat.mod_lt _ hz
      exact (hU (q / z) els2[q / z] (q % z) (els2[q / z])[q % z] (by simp [hi]) (by simp [hjl])).2
    · have hi := (List.getElem?_eq_some_iff.1 he').1
      have hj : j < z := by rw [← hsz e' (List.mem_of_getElem? he')]; exact (List.getElem?_eq_some_iff.1 hm).1
      have hlt : i * z + j < els2.length * z := by
        have : (i + 1) * z ≤ els2.length * z := Nat.mul_le_mul_right _ hi
        rw [Nat.add_mul] at this; omega
      refine ⟨U i j, ?_, hV i e' j m he' hm⟩
      have hdv : (i * z + j) / z = i := by rw [Nat.mul_comm, Nat.mul_add_div hz, Nat.div_eq_of_lt hj]; omega
      have hmd : (i * z + j) % z = j := by rw [Nat.mul_comm, Nat.mul_add_mod]; exact Nat.mod_eq_of_lt hj
      simp [hlt, hdv, hmd]
    · have hq : j < els2.length * z := by
        have := (List.getElem?_eq_some_iff.1 hj).1; simpa using this
      have hi : j / z < els2.length := Nat.div_lt_of_lt_mul (by rw [Nat.mul_comm]; exact hq)
      have hjl : j % z < (els2[j / z]).length := by rw [hsz _ (List.getElem_mem hi)]; exact Nat.mod_lt _ hz
      have hu : U (j / z) (j % z) = u := by simpa [hq] using hj
      subst hu
      have := (hU (j / z) els2[j / z] (j % z) (els2[j / z])[j % z] (by simp [hi]) (by simp [hjl])).1
      rw [add_mk, cell?_eq]
      rw [show j / z * z + j % z = j by rw [Nat.mul_comm]; exact Nat.div_add_mod j z] at this
      exact this

theorem RowC.app {C C' : Array Value} {c c' : Nat} {r : Row} {els2 : List (List PV)} {news : List Value} (g : RowC C c r) (hsz : C'.size = c' * r.sz) (hle : r.els.length + els2.length ≤ c') (hmax : c' ≤ maxLen) (hw : ∀ e ∈ els2, e.length = r.sz)
    (ht : C'.toList.take ((r.els.length + els2.length) * r.sz) = C.toList.take (r.els.length * r.sz) ++ news)
    (hn : ∀ (i : Nat) e' (j : Nat) m, els2[i]? = some e' → e'[j]? = some m → ∃ u, news[i * r.sz + j]? = some u ∧ u.oneCell' = true ∧ m.val = some u) : RowC C' c' ⟨r.ty, r.sz, r.els ++ els2⟩ := by
  have hCl : (C.toList.take (r.els.length * r.sz)).length = r.els.length * r.sz := by
    simp only [List.length_take, Array.length_toList, g.size]
    have : r.els.length * r.sz ≤ c * r.sz := Nat.mul_le_mul_right _ g.le
    omega
  have hcell : ∀ (q : Nat) u, (C.toList.take (r.els.length * r.sz) ++ news)[q]? = some u → C'[q]? = some u := fun q u hq => by
    rw [← ht, List.getElem?_take] at hq
    split at hq
    · simpa using hq
    · cases hq
  refine ⟨hsz, by simpa using hle, hmax, fun e he => ?_, fun i e j m he hm => ?_⟩
  · rcases List.mem_append.1 he with h | h
    · exact g.wid e h
    · exact hw e h
  · have he' : (r.els ++ els2)[i]? = some e := he
    by_cases hi : i < r.els.length
    · rw [List.getElem?_append_left hi] at he'
      obtain ⟨u, hu, h1, h2⟩ := g.at' i e j m he' hm
      refine ⟨u, hcell _ u ?_, h1, h2⟩
      have hj : j < r.sz := by rw [← g.wid e (List.mem_of_getElem? he')]; exact (List.getElem?_eq_some_iff.1 hm).1
      have hlt : i * r.sz + j < r.els.length * r.sz := by
        have : (i + 1) * r.sz ≤ r.els.length * r.sz := Nat.mul_le_mul_right _ hi
        rw [Nat.add_mul] at this; omega
      show (C.toList.take (r.els.length * r.sz) ++ news)[i * r.sz + j]? = some u
      rw [List.getElem?_append_left (by rw [hCl]; exact hlt), List.getElem?_take, if_pos hlt]
      simpa using hu
    · rw [List.getElem?_append_right (by omega)] at he'
      obtain ⟨u, hu, h1, h2⟩ := hn _ e j m he' hm
      refine ⟨u, hcell _ u ?_, h1, h2⟩
      have hge : r.els.length * r.sz ≤ i * r.sz := Nat.mul_le_mul_right _ (by omega)
      show (C.toList.take (r.els.length * r.sz) ++ news)[i * r.sz + j]? = some u
      rw [List.getElem?_append_right (by rw [hCl]; omega), hCl, show i * r.sz + j - r.els.length * r.sz = (i - r.els.length) * r.sz + j by rw [Nat.sub_mul]; omega]
      exact hu

section
variable {P : Program} {ops : Array Oper} {rest : List Oper} {T : St → Prop} {st : St} {d : Nat} {ty : TypeId} {pos : String} {aft : Array Edge}
/-- append to a known block's slice: in its place, or in a new block. -/
theorem E.appX (tt : Tab P) {x y : Operand} {t e z b c : Nat} {ti ei : TyI} {r : Row} {C : Array Value} {els2 : List (List PV)} (h : tt.l.get t = some ti) (hel : ti.el = some (e, z)) (ha : ti.agg = false) (he : tt.l.get e = some ei)
    (hzz : (Nat.beq ei.zero.length ei.sz && !Nat.beq ei.sz 0 && Nat.beq ei.sz z && Nat.ble ei.bytes 32768) = true)
    (hx : st.ev x = .p (.raw (.slice (some ⟨b, 0, none⟩) r.els.length c))) (hb : st.x b = some (.cells C r.ty (0, 0))) (hC : RowC C c r) (hrt : (Nat.beq r.ty e && Nat.beq r.sz z) = true)
    (hy : rdA st (st.ev y) = some (.view z els2)) (hne : els2 ≠ []) (hpl : ∀ e ∈ els2, ∀ m ∈ e, m.val.isSome = true) (hd : Nat.blt d st.n = true) (hn : r.els.length + els2.length ≤ 4294967296)
    (kk : ∀ b' c' C', RowC C' c' ⟨r.ty, r.sz, r.els ++ els2⟩ → (b' = b ∨ st.x b' = none) → wl false P ops tt.l T rest (({ st with x := st.x.upd b' (.cells C' r.ty (0, 0)) } : St).put d (.p (.raw (.slice (some ⟨b', 0, none⟩) (r.els.length + els2.length) c'))))) :
    W false P ops (⟨some d, .call { callee := .builtin .append, args := #[x, y], argTypes := #[t, t] }, ty, pos, aft, none⟩ :: rest) T st := by
  have hd' : d < st.n := by simpa [Nat.blt_eq] using hd
  simp only [Bool.and_eq_true, Bool.not_eq_true'] at hzz hrt
  obtain ⟨⟨⟨z1, z2⟩, z3⟩, z4⟩ := hzz
  have hrt1 := Nat.eq_of_beq_eq_true hrt.1
  have hrt2 := Nat.eq_of_beq_eq_true hrt.2
  obtain ⟨hu, hse⟩ := tt.slice h hel ha
  obtain ⟨inf, v, i1, i2, i3, i4, i5, i6⟩ := tt.zero he z1 z2
  have hz3 := Nat.eq_of_beq_eq_true z3
  have hz4 := Nat.le_of_ble_eq_true z4
  have hne0 : ei.sz ≠ 0 := fun e => by rw [e] at z2; cases z2
  intro w0 a w Qr hs hT
  obtain ⟨L, cp, sz, ln, s⟩ := hs
  have hxv : a.eval x = .slice (some ⟨b, 0, none⟩) r.els.length c := s.ev_val hx (v := .slice (some ⟨b, 0, none⟩) r.els.length c) rfl
  obtain ⟨f1, f2, f3⟩ := s.frag b _ hb
  obtain ⟨ad, c2, news, hyv, hnl, hnone, hncells, hnsz, hadc⟩ := s.news (by omega) hne hy
  have hnews : ∀ (i : Nat) e' (j : Nat) m, els2[i]? = some e' → e'[j]? = some m → ∃ u, news[i * r.sz + j]? = some u ∧ u.oneCell' = true ∧ m.val = some u := fun i e' j m he' hm => by
    obtain ⟨u, q1, q2⟩ := hncells i e' j m he' hm
    obtain ⟨u', hu'⟩ := Option.isSome_iff_exists.1 (hpl e' (List.mem_of_getElem? he') m (List.mem_of_getElem? hm))
    have := VR.of_val hu' q2
    subst this
    exact ⟨u, by rw [hrt2]; exact q1, hnone u (List.mem_of_getElem? q1), hu'⟩
  have hCl : (C.toList.take (r.els.length * r.sz)).length = r.els.length * r.sz := by
    simp only [List.length_take, Array.length_toList, hC.size]
    have : r.els.length * r.sz ≤ c * r.sz := Nat.mul_le_mul_right _ hC.le
    omega
  have hcat : (C.toList.take (r.els.length * r.sz) ++ news).length = (r.els.length + els2.length) * r.sz := by
    rw [List.length_append, hCl, hnl, Nat.add_mul, hrt2]
  have hsi : inf.size = r.sz := by rw [i2, hz3, hrt2]
  rw [hrt1] at f1
  simp only [wpList, wanted_none, if_true]
  refine .inl ?_
  unfold Oper.wp
  by_cases hroom : r.els.length + els2.length ≤ c
  · have hfit : r.els.length * inf.size + news.length ≤ C.size := by
      rw [hsi, hnl, hC.size, ← hrt2, ← Nat.add_mul]; exact Nat.mul_le_mul_right _ hroom
    have hrn := run_append_room (P := P) w t ty e inf hu i1 b r.els.length c C f1 ad els2.length c2 news (by rw [hsi, hrt2]; exact hnl) hadc hnone hroom hfit
    have hex : (execOp a.eval ⟨some d, .call { callee := .builtin .append, args := #[x, y], argTypes := #[t, t] }, ty, pos, aft, none⟩).run P w = .ok (.value (.slice (some ⟨b, 0, none⟩) (r.els.length + els2.length) c)) (w.setRow b (C.toList.take (r.els.length * inf.size) ++ news ++ C.toList.drop (r.els.length * inf.size + news.length)).toArray) := by
      simp [execOp, resolve, invoke, builtin, hxv, hyv, hrn]
    rw [hex]
    simp only [Oper.upon]
    have hrow : RowC (C.toList.take (r.els.length * inf.size) ++ news ++ C.toList.drop (r.els.length * inf.size + news.length)).toArray c ⟨r.ty, r.sz, r.els ++ els2⟩ := by
      refine hC.app (news := news) ?_ hroom hC.max (by rw [hrt2]; exact hnsz) ?_ hnews
      · rw [hsi]
        simp only [List.size_toArray, List.length_append, hCl, List.length_drop, Array.length_toList]
        have := hC.size
        rw [hsi] at hfit
        omega
      · rw [hsi]
        show List.take _ (C.toList.take (r.els.length * r.sz) ++ news ++ _) = _
        rw [← hcat]
        exact List.take_left
    have s2 := s.wroteX (w' := w.setRow b (C.toList.take (r.els.length * inf.size) ++ news ++ C.toList.drop (r.els.length * inf.size + news.length)).toArray) (o' := .cells (C.toList.take (r.els.length * inf.size) ++ news ++ C.toList.drop (r.els.length * inf.size + news.length)).toArray r.ty (0, 0)) hb rfl rfl rfl (by simp) (by rw [hrt1]; exact setRow_heap w b C _ _ _ f1) (fun c hc => setRow_other w b c _ hc)
    exact wl_sound tt (kk b c _ hrow (.inl rfl)) w0 _ _ Qr ⟨L, cp, sz, ln, s2.put (d := d) hd' VR.raw⟩ hT
  · have hbytes : (r.els.length + els2.length) * inf.bytes ≤ 140737488355328 := by
      rw [i3]
      calc (r.els.length + els2.length) * ei.bytes ≤ 4294967296 * 32768 := Nat.mul_le_mul hn hz4
        _ = 140737488355328 := by decide
    have hrn := run_append_grow (P := P) w t ty e inf v hu i1 i4 ⟨b, 0, none⟩ r.els.length c (C.toList.take (r.els.length * r.sz)) (by rw [hsi]; exact hCl) (fun j u hj => by
      rw [add_mk, cell?_eq]
      simp only [hcell, f1, Nat.zero_add]
      rw [List.getElem?_take] at hj
      split at hj
      · simpa using hj
      · cases hj) ad els2.length c2 news (by rw [hsi, hrt2]; exact hnl) hadc (by omega) (by omega) (growslice_fits (by omega) hbytes)
    have hge' := grownCap_ge w (r.els.length + els2.length) c e
    have hcm : grownCap w (r.els.length + els2.length) c e ≤ maxLen := grownCap_le_maxLen w _ _ e (by unfold maxLen; omega)
    have hex : (execOp a.eval ⟨some d, .call { callee := .builtin .append, args := #[x, y], argTypes := #[t, t] }, ty, pos, aft, none⟩).run P w = .ok (.value (.slice (some ⟨w.heap.size, 0, none⟩) (r.els.length + els2.length) (grownCap w (r.els.length + els2.length) c e)))
        (w.drew.alloc (.cells ((C.toList.take (r.els.length * r.sz) ++ news).toArray ++ Builtin.zeroCells v.cells (grownCap w (r.els.length + els2.length) c e - (r.els.length + els2.length))) e)) := by
      simp [execOp, resolve, invoke, builtin, hxv, hyv, hrn]
    rw [hex]
    simp only [Oper.upon]
    have hrow : RowC ((C.toList.take (r.els.length * r.sz) ++ news).toArray ++ Builtin.zeroCells v.cells (grownCap w (r.els.length + els2.length) c e - (r.els.length + els2.length))) (grownCap w (r.els.length + els2.length) c e) ⟨r.ty, r.sz, r.els ++ els2⟩ := by
      refine hC.app (news := news) ?_ hge' hcm (by rw [hrt2]; exact hnsz) ?_ hnews
      · rw [Array.size_append, List.size_toArray, hcat, size_zeroCells, i6, hz3, ← hrt2, ← Nat.add_mul]
        congr 1; omega
      · simp only [Array.toList_append, List.append_assoc]
        rw [← List.append_assoc, ← hcat]
        exact List.take_left
    have s2 := s.grow (Ext.drew w)
    have s3 := s2.newX (.cells ((C.toList.take (r.els.length * r.sz) ++ news).toArray ++ Builtin.zeroCells v.cells (grownCap w (r.els.length + els2.length) c e - (r.els.length + els2.length))) e)
    have hfresh : st.x w.heap.size = none := s.frag_none (Nat.le_refl _)
    have hk := kk w.heap.size _ _ hrow (.inr hfresh)
    rw [hrt1] at hk
    exact wl_sound tt hk w0 _ _ Qr ⟨L, cp, sz, ln, s3.put (d := d) hd' VR.raw⟩ hT

/-- append to nil. -/
theorem E.appX0 (tt : Tab P) {x y : Operand} {t e z : Nat} {ti ei : TyI} {els2 : List (List PV)} (h : tt.l.get t = some ti) (hel : ti.el = some (e, z)) (ha : ti.agg = false) (he : tt.l.get e = some ei)
    (hzz : (Nat.beq ei.zero.length ei.sz && !Nat.beq ei.sz 0 && Nat.beq ei.sz z && Nat.ble ei.bytes 32768) = true)
    {m : PV} (hx : st.ev x = .p m) (hm : m.val = some (.slice none 0 0)) (hy : rdA st (st.ev y) = some (.view z els2)) (hne : els2 ≠ []) (hpl : ∀ e ∈ els2, ∀ m ∈ e, m.val.isSome = true) (hd : Nat.blt d st.n = true) (hn : els2.length ≤ 4294967296)
    (kk : ∀ b' c' C', RowC C' c' ⟨e, z, els2⟩ → st.x b' = none → wl false P ops tt.l T rest (({ st with x := st.x.upd b' (.cells C' e (0, 0)) } : St).put d (.p (.raw (.slice (some ⟨b', 0, none⟩) els2.length c'))))) :
    W false P ops (⟨some d, .call { callee := .builtin .append, args := #[x, y], argTypes := #[t, t] }, ty, pos, aft, none⟩ :: rest) T st := by
  have hd' : d < st.n := by simpa [Nat.blt_eq] using hd
  simp only [Bool.and_eq_true, Bool.not_eq_true'] at hzz
  obtain ⟨⟨⟨z1, z2⟩, z3⟩, z4⟩ := hzz
  obtain ⟨hu, hse⟩ := tt.slice h hel ha
  obtain ⟨inf, v, i1, i2, i3, i4, i5, i6⟩ := tt.zero he z1 z2
  have hz3 := Nat.eq_of_beq_eq_true z3
  have hz4 := Nat.le_of_ble_eq_true z4
  have hne0 : ei.sz ≠ 0 := fun e => by rw [e] at z2; cases z2
  intro w0 a w Qr hs hT
  obtain ⟨L, cp, sz, ln, s⟩ := hs
  have hxv : a.eval x = .slice none 0 0 := s.ev_val hx hm
  obtain ⟨ad, c2, news, hyv, hnl, hnone, hncells, hnsz, hadc⟩ := s.news (by omega) hne hy
  have hpos : 0 < els2.length := List.length_pos_iff.2 hne
  have hsi : inf.size = z := by rw [i2, hz3]
  have hnews : ∀ (i : Nat) e' (j : Nat) m, els2[i]? = some e' → e'[j]? = some m → ∃ u, news[i * z + j]? = some u ∧ u.oneCell' = true ∧ m.val = some u := fun i e' j m he' hm => by
    obtain ⟨u, q1, q2⟩ := hncells i e' j m he' hm
    obtain ⟨u', hu'⟩ := Option.isSome_iff_exists.1 (hpl e' (List.mem_of_getElem? he') m (List.mem_of_getElem? hm))
    have := VR.of_val hu' q2
    subst this
    exact ⟨u, q1, hnone u (List.mem_of_getElem? q1), hu'⟩
  simp only [wpList, wanted_none, if_true]
  refine .inl ?_
  unfold Oper.wp
  have hbytes : els2.length * inf.bytes ≤ 140737488355328 := by
    rw [i3]
    calc els2.length * ei.bytes ≤ 4294967296 * 32768 := Nat.mul_le_mul hn hz4
      _ = 140737488355328 := by decide
  have hrn := run_append_grow_src (P := P) w t t ty e inf v hu i1 i4 none 0 0 [] (run_firstCells_none w.drew inf.size 0 0 0) (.slice (some ad) els2.length c2) els2.length news (Src.ofSlice w hu ad els2.length c2 news (by rw [hsi]; exact hnl) hadc hnone) (by omega) (by omega) (growslice_fits (by omega) (by simpa using hbytes))
  simp only [Nat.zero_add, List.nil_append] at hrn
  have hge' := grownCap_ge w els2.length 0 e
  have hcm : grownCap w els2.length 0 e ≤ maxLen := grownCap_le_maxLen w _ _ e (by unfold maxLen; omega)
  have hex : (execOp a.eval ⟨some d, .call { callee := .builtin .append, args := #[x, y], argTypes := #[t, t] }, ty, pos, aft, none⟩).run P w = .ok (.value (.slice (some ⟨w.heap.size, 0, none⟩) els2.length (grownCap w els2.length 0 e)))
      (w.drew.alloc (.cells (news.toArray ++ Builtin.zeroCells v.cells (grownCap w els2.length 0 e - els2.length)) e)) := by
    simp [execOp, resolve, invoke, builtin, hxv, hyv, hrn]
  rw [hex]
  simp only [Oper.upon]
  have hrow : RowC (news.toArray ++ Builtin.zeroCells v.cells (grownCap w els2.length 0 e - els2.length)) (grownCap w els2.length 0 e) ⟨e, z, els2⟩ := by
    have h0 : RowC #[] 0 ⟨e, z, []⟩ := ⟨by simp, by simp, Nat.zero_le _, (fun e he => by cases he), (fun i e j m he => by cases he)⟩
    have := h0.app (els2 := els2) (news := news) (C' := news.toArray ++ Builtin.zeroCells v.cells (grownCap w els2.length 0 e - els2.length)) (c' := grownCap w els2.length 0 e) ?_ (by simpa using hge') hcm hnsz ?_ hnews
    · simpa using this
    · rw [Array.size_append, List.size_toArray, hnl, size_zeroCells, i6, hz3, ← Nat.add_mul]
      congr 1; omega
    · simp only [Array.toList_append]
      show List.take _ (news ++ _) = _
      simp only [List.length_nil, Nat.zero_add, Nat.zero_mul, List.take_zero, List.nil_append]
      rw [← hnl]; exact List.take_left
  have s2 := s.grow (Ext.drew w)
  have s3 := s2.newX (.cells (news.toArray ++ Builtin.zeroCells v.cells (grownCap w els2.length 0 e - els2.length)) e)
  exact wl_sound tt (kk w.heap.size _ _ hrow (s.frag_none (Nat.le_refl _))) w0 _ _ Qr ⟨L, cp, sz, ln, s3.put (d := d) hd' VR.raw⟩ hT
end
end Go.Lo
namespace Go.Lo
open Go.RowKit

def FV (e : Nat) (X : Frag) (v : Value) (els : List (List PV)) : Prop :=
  (v = .slice none 0 0 ∧ els = []) ∨ ∃ b c C, v = .slice (some ⟨b, 0, none⟩) els.length c ∧ X b = some (.cells C e (0, 0)) ∧ RowC C c ⟨e, 1, els⟩
def blkV : Value → Option Nat
  | .slice (some a) _ _ => some a.block
  | _ => none
def cutV (v : Value) (n : Nat) : Value := match v with
  | .slice (some a) _ c => .slice (some a) n c
  | v => v
theorem FV.nil (e : Nat) (X : Frag) : FV e X (.slice none 0 0) [] := .inl ⟨rfl, rfl⟩
theorem FV.raw {e : Nat} {X : Frag} {b c : Nat} {C : Array Value} {els : List (List PV)} (h1 : X b = some (.cells C e (0, 0))) (h2 : RowC C c ⟨e, 1, els⟩) : FV e X (.slice (some ⟨b, 0, none⟩) els.length c) els := .inr ⟨b, c, C, rfl, h1, h2⟩
theorem FV.open {e : Nat} {X : Frag} {v : Value} {els : List (List PV)} (h : FV e X v els) (hl : 0 < els.length) : ∃ b c C, v = .slice (some ⟨b, 0, none⟩) els.length c ∧ X b = some (.cells C e (0, 0)) ∧ RowC C c ⟨e, 1, els⟩ := by
  rcases h with ⟨_, rfl⟩ | h
  · simp at hl
  · exact h
theorem FV.cast {e : Nat} {X : Frag} {v : Value} {els els' : List (List PV)} (h : FV e X v els) (he : els = els') : FV e X v els' := he ▸ h
theorem FV.one {e : Nat} {X : Frag} {v : Value} {els : List (List PV)} (h : FV e X v els) : v.oneCell' = true := by
  rcases h with ⟨rfl, _⟩ | ⟨b, c, C, rfl, _⟩ <;> rfl
theorem FV.blk {e : Nat} {X : Frag} {v : Value} {els : List (List PV)} (h : FV e X v els) {b : Nat} (hb : blkV v = some b) : X b ≠ none := by
  rcases h with ⟨rfl, _⟩ | ⟨b', c, C, rfl, hx, _⟩
  · cases hb
  · simp [blkV] at hb
    subst hb; rw [hx]; simp
theorem FV.upd {e : Nat} {X : Frag} {v : Value} {els : List (List PV)} (h : FV e X v els) {b : Nat} (hb : blkV v ≠ some b) (o : Obj) : FV e (X.upd b o) v els := by
  rcases h with ⟨h1, h2⟩ | ⟨b', c, C, rfl, hx, hC⟩
  · exact .inl ⟨h1, h2⟩
  · exact .inr ⟨b', c, C, rfl, by rw [Frag.upd_ne _ _ (fun e1 => hb (by rw [← e1]; rfl))]; exact hx, hC⟩
/-- A block that is new lies in no slice that is kept. -/
theorem FV.fresh {e : Nat} {X : Frag} {v : Value} {els : List (List PV)} (h : FV e X v els) {b : Nat} (hb : X b = none) : blkV v ≠ some b := fun e1 => h.blk e1 hb
theorem FV.keep {e : Nat} {X X' : Frag} {v : Value} {els : List (List PV)} (h : FV e X v els) (hk : ∀ b, blkV v = some b → X' b = X b) : FV e X' v els := by
  rcases h with h | ⟨b', c, C, rfl, hx, hC⟩
  · exact .inl h
  · exact .inr ⟨b', c, C, rfl, by rw [hk b' rfl]; exact hx, hC⟩
theorem FV.cut {e : Nat} {X : Frag} {v : Value} {els : List (List PV)} (h : FV e X v els) {n : Nat} (hn : n ≤ els.length) : FV e X (cutV v n) (els.take n) ∧ blkV (cutV v n) = blkV v := by
  rcases h with ⟨rfl, rfl⟩ | ⟨b', c, C, rfl, hx, hC⟩
  · exact ⟨.inl ⟨rfl, by simp⟩, rfl⟩
  · refine ⟨.inr ⟨b', c, C, ?_, hx, hC.take n⟩, rfl⟩
    show Value.slice _ n c = _
    congr 1
    simp; omega
theorem FV.set {e : Nat} {X : Frag} {b c i : Nat} {C : Array Value} {els : List (List PV)} {m : PV} {u : Value} (hC : RowC C c ⟨e, 1, els⟩) (hi : i < els.length) (hm : m.val = some u) (hu : u.oneCell' = true) :
    FV e (X.upd b (.cells (C.setIfInBounds i u) e (0, 0))) (.slice (some ⟨b, 0, none⟩) els.length c) (els.set i [m]) := by
  have hw : (els[i]).length = 1 := hC.wid _ (List.getElem_mem hi)
  have hs := hC.set (i := i) (j := 0) (e := els[i]) (m := m) (v := u) (by simp [hi]) (by omega) hm hu
  have he : (els[i]).set 0 m = [m] := by
    match els[i], hw with
    | [a], _ => rfl
  rw [he] at hs
  refine .inr ⟨b, c, _, by simp, Frag.upd_same _ _ _, ?_⟩
  simpa using hs
theorem RowC.cell {C : Array Value} {c e i : Nat} {els : List (List PV)} {m : PV} (hC : RowC C c ⟨e, 1, els⟩) (h : els[i]? = some [m]) : ∃ u, C[i]? = some u ∧ m.val = some u := by
  obtain ⟨u, h1, _, h2⟩ := hC.at' i [m] 0 m h rfl
  exact ⟨u, by simpa using h1, h2⟩
theorem RowC.lt {C : Array Value} {c e i : Nat} {els : List (List PV)} (hC : RowC C c ⟨e, 1, els⟩) (h : i < els.length) : i < C.size := by
  have h1 : C.size = c * 1 := hC.size
  have h2 : els.length ≤ c := hC.le
  omega

theorem Deep.fv {st : St} {x : Operand} {e : Nat} {v : Value} {els : List (List PV)} (hx : st.ev x = .p (.raw v)) (h : FV e st.x v els) : Deep st x (.view 1 els) := fun w0 a w L cp sz ln s => by
  rcases h with ⟨rfl, rfl⟩ | ⟨b, c, C, rfl, hb, hC⟩
  · rw [s.ev_val hx (v := .slice none 0 0) rfl]; exact .view0
  · exact Deep.raw hx (RowC.deep (r := ⟨e, 1, els⟩) hb hC (RfE.refl _ _)) w0 a w L cp sz ln s

section
variable {q : Bool} {P : Program} {ops : Array Oper} {rest l0 : List Oper} {T : St → Prop} {st : St} {d : Nat} {ty : TypeId} {pos : String} {aft : Array Edge}

theorem rd_lenF {x : Operand} {t ty e ez e' : Nat} {v : Value} {els : List (List PV)} {ti : TyI} (tt : Tab P) (hT0 : tt.l.get t = some ti) (hT1 : ti.el = some (e, ez)) (hT2 : ti.agg = false) (hx : st.ev x = .p (.raw v)) (h : FV e' st.x v els) :
    ReadOp P (.call { callee := .builtin .len, args := #[x], argTypes := #[t] }) ty st (.p (.int .i64 els.length)) := by
  rcases h with ⟨rfl, rfl⟩ | ⟨b, c, C, rfl, hb, hC⟩
  · exact rd_lenR tt hT0 hT1 hT2 hx
  · exact rd_lenR tt hT0 hT1 hT2 hx

theorem rd_cutF {x hi : Operand} {t ty e z e' : Nat} {v : Value} {els : List (List PV)} {ti : TyI} {k : IntKind} {i : Int} (tt : Tab P) (h : tt.l.get t = some ti) (hel : ti.el = some (e, z)) (ha : ti.agg = false) (hz : Nat.beq z 0 = false)
    (hx : st.ev x = .p (.raw v)) (hF : FV e' st.x v els) (hhi : st.ev hi = .p (.int k i)) (h0 : 0 ≤ i) (h1 : i ≤ els.length) : ReadOp P (.slice t x none (some hi) none) ty st (.p (.raw (cutV v i.toNat))) := by
  rcases hF with ⟨rfl, rfl⟩ | ⟨b, c, C, rfl, hb, hC⟩
  · have hi0 : i = 0 := by simp at h1; omega
    subst hi0
    intro w0 a w L cp sz ln s
    have hv : a.eval x = .slice none 0 0 := s.ev_val hx (v := .slice none 0 0) rfl
    obtain ⟨hu, hse⟩ := tt.slice h hel ha
    have hz' : z ≠ 0 := fun e => by subst e; cases hz
    have hi2 : ∃ inf, P.info? e = some inf ∧ inf.size = z := by
      unfold szOf at hse
      cases hi : P.info? e with
      | none => rw [hi] at hse; exact absurd hse.symm hz'
      | some inf => rw [hi] at hse; exact ⟨inf, rfl, hse⟩
    obtain ⟨inf, hi3, hi4⟩ := hi2
    refine ⟨.slice none 0 0, VR.raw, fun op w' ho _ _ => ?_⟩
    have hb := sliceBounds_run (P := P) (len := 0) (cap := 0) (lo := none) (hi := some 0) (k := k) (k' := k) w' (by simp) (by simp) (by simp)
    simp only [Option.map_none, Option.map_some, Option.getD_none, Option.getD_some, Int.toNat_zero] at hb
    simp [execOp, ho, hv, s.ev_int hhi, Instr.sliceAt, Instr.slice, underlying, program, Sem.run, hu, hb, run_sizeOf hi3, hi4]
  · exact rd_cutR tt h hel ha hz hx hhi h0 (by have h2 : els.length ≤ c := hC.le; omega)

/-- append to a slice that is kept. -/
theorem E.appF (tt : Tab P) {x y : Operand} {t e : Nat} {ti ei : TyI} {v : Value} {els els2 : List (List PV)} (h : tt.l.get t = some ti) (hel : ti.el = some (e, 1)) (ha : ti.agg = false) (he : tt.l.get e = some ei)
    (hzz : (Nat.beq ei.zero.length ei.sz && !Nat.beq ei.sz 0 && Nat.beq ei.sz 1 && Nat.ble ei.bytes 32768) = true)
    (hx : st.ev x = .p (.raw v)) (hF : FV e st.x v els) (hy : rdA st (st.ev y) = some (.view 1 els2)) (hne : els2 ≠ []) (hpl : ∀ e ∈ els2, ∀ m ∈ e, m.val.isSome = true) (hd : Nat.blt d st.n = true) (hn : els.length + els2.length ≤ 4294967296)
    (kk : ∀ b' c' C', RowC C' c' ⟨e, 1, els ++ els2⟩ → (blkV v = some b' ∨ st.x b' = none) → wl false P ops tt.l T rest (({ st with x := st.x.upd b' (.cells C' e (0, 0)) } : St).put d (.p (.raw (.slice (some ⟨b', 0, none⟩) (els ++ els2).length c'))))) :
    W false P ops (⟨some d, .call { callee := .builtin .append, args := #[x, y], argTypes := #[t, t] }, ty, pos, aft, none⟩ :: rest) T st := by
  rcases hF with ⟨rfl, rfl⟩ | ⟨b, c, C, rfl, hb, hC⟩
  · refine E.appX0 tt h hel ha he hzz hx rfl hy hne hpl hd (by simpa using hn) fun b' c' C' h1 h2 => ?_
    have := kk b' c' C' (by simpa using h1) (.inr h2)
    simpa using this
  · refine E.appX tt (r := ⟨e, 1, els⟩) h hel ha he hzz hx hb hC (by simp) hy hne hpl hd hn fun b' c' C' h1 h2 => ?_
    have := kk b' c' C' h1 (h2.imp (fun e1 => by rw [e1]; rfl) id)
    rw [List.length_append] at this
    exact this

/-- A row's cells, read another way. -/
theorem SRL.reRow {w0 : Bs} {a : Act} {w : World} {L cp sz ln : Nat → Nat} (s : SRL w0 st a w L cp sz ln) {k : Nat} {r r' : Row} (hk : look st.rows k = some r) (hs : r'.sz = r.sz) (hl : r'.els.length = r.els.length) (hre : ∀ h S b c, RowR h S b c r → RowR h S b c r') :
    SRL w0 { st with rows := (k, r') :: st.rows } a w L cp sz ln := by
  obtain ⟨g1, hge, hsk, hlk⟩ := s.rows k r hk
  have hlive : ∀ x, liveIn ((k, r') :: st.rows) x ↔ liveIn st.rows x := fun x => by
    unfold liveIn; rw [look_cons]
    by_cases h : k = x
    · subst h; rw [if_pos rfl, hk]; simp
    · rw [if_neg h]
  have hb : ∀ b, stab w0 st.rows st.x L w.heap b → stab w0 ((k, r') :: st.rows) st.x L w.heap b ∧ w.heap[b]? = w.heap[b]? := fun b hb =>
    ⟨⟨hb.1, hb.2.1, fun x hx => hb.2.2 x ((hlive x).1 hx)⟩, rfl⟩
  refine ⟨s.defers, s.size, fun t => (s.tmps t).mono hb, fun x rx hx => ?_, fun x y hx hy => s.inj x y ((hlive x).1 hx) ((hlive y).1 hy), fun x hx => s.keys x ((hlive x).1 hx), s.below, s.pos, s.pin, fun b o hx => ⟨(s.frag b o hx).1, (s.frag b o hx).2.1, fun x hxl => (s.frag b o hx).2.2 x ((hlive x).1 hxl)⟩⟩
  rw [look_cons] at hx
  by_cases h : k = x
  · subst h
    rw [if_pos rfl] at hx; cases hx
    exact ⟨(hre _ _ _ _ g1).mono hb rfl, hge, by rw [hsk, hs], by rw [hlk, hl]⟩
  · rw [if_neg h] at hx
    obtain ⟨q1, q2, q3, q4⟩ := s.rows x rx hx
    exact ⟨q1.mono hb rfl, q2, q3, q4⟩
theorem E.reRow (tt : Tab P) {k : Nat} {r r' : Row} (hk : look st.rows k = some r) (hs : r'.sz = r.sz) (hl : r'.els.length = r.els.length) (hre : ∀ h S b c, RowR h S b c r → RowR h S b c r')
    (kk : wl q P ops tt.l T l0 { st with rows := (k, r') :: st.rows }) : W q P ops l0 T st := by
  cases q
  · rintro w0 a w Qr ⟨L, cp, sz, ln, s⟩ hT
    exact wl_sound tt kk w0 a w Qr ⟨L, cp, sz, ln, s.reRow hk hs hl hre⟩ hT
  · rintro w0 a w Kr ⟨L, cp, sz, ln, s⟩ hT
    exact wl_sound tt kk w0 a w Kr ⟨L, cp, sz, ln, s.reRow hk hs hl hre⟩ hT

/-- nil, read as it stands. -/
def PV.rn : PV → PV
  | .nil => .raw (.slice none 0 0)
  | m => m
theorem VR.rn {h : Array Obj} {S : Nat → Prop} {m : PV} {v : Value} (hv : VR h S m v) : VR h S m.rn v := by
  cases hv
  case nil => exact VR.raw
  case int => exact .int
  case bool => exact .bool
  case str => exact .str
  case agg hl hv => exact .agg hl hv
  case any => exact .any
  case raw => exact .raw
  case clo hl hv => exact .clo hl hv
  case view0 => exact .view0
  case view U hn hc hS hsz hU hV => exact .view U hn hc hS hsz hU hV
  case ref U hS hU hV => exact .ref U hS hU hV
theorem RowR.rn {h : Array Obj} {S : Nat → Prop} {b c : Nat} {r : Row} (g : RowR h S b c r) : RowR h S b c ⟨r.ty, r.sz, r.els.map (fun e => e.map PV.rn)⟩ := by
  obtain ⟨C, h1, h2, h3, h4, h5, h6⟩ := g
  refine ⟨C, h1, h2, by simpa using h3, h4, fun e he => ?_, fun i e j m he hm => ?_⟩
  · obtain ⟨e0, h0, rfl⟩ := List.mem_map.1 he
    simpa using h5 e0 h0
  · simp only [List.getElem?_map, Option.map_eq_some_iff] at he
    obtain ⟨e0, h0, rfl⟩ := he
    simp only [List.getElem?_map, Option.map_eq_some_iff] at hm
    obtain ⟨m0, hm0, rfl⟩ := hm
    obtain ⟨u, hu, ho, hv⟩ := h6 i e0 j m0 h0 hm0
    exact ⟨u, hu, ho, hv.rn⟩
/-- The nil fields of an own row are read as they stand. -/
theorem E.rnRow (tt : Tab P) {k : Nat} {r : Row} (hk : look st.rows k = some r)
    (kk : wl q P ops tt.l T l0 { st with rows := (k, ⟨r.ty, r.sz, r.els.map (fun e => e.map PV.rn)⟩) :: st.rows }) : W q P ops l0 T st :=
  E.reRow tt (r' := ⟨r.ty, r.sz, r.els.map (fun e => e.map PV.rn)⟩) hk rfl (by simp) (fun _ _ _ _ g => g.rn) kk
end
end Go.Lo
