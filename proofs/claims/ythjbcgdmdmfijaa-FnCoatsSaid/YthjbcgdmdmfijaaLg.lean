/- Contracts (Lg). -/
import Derived.Test.YthjbcgdmdmfijaaPm
set_option linter.unusedVariables false
set_option linter.unusedSimpArgs false
set_option maxRecDepth 100000
namespace Go.Lo
-- deps: Pm
/-- What st tells, st' tells too. -/
def Lg (st st' : St) : Prop := ∀ w0 a w, SR w0 st a w → SR w0 st' a w
theorem Lg.le {st st' : St} (h : Le st st') : Lg st st' := fun _ _ _ s => s.le h
theorem Lg.frz {st st' : St} {k : Nat} {r : Row} (hk : look st.rows k = some r) (hk0 : Nat.beq k 0 = false) (h : Lg (st.frz k r) st') : Lg st st' := fun w0 a w s => h w0 a w (s.frz hk hk0)
/-! Two keys change places. -/
def sw (k k' x : Nat) : Nat := bif Nat.beq x k then k' else bif Nat.beq x k' then k else x
theorem sw_k (k k' : Nat) : sw k k' k = k' := by unfold sw; rw [Nat.beq_refl]; rfl
theorem beq_iff' (x y : Nat) : Nat.beq x y = true ↔ x = y := ⟨Nat.eq_of_beq_eq_true, fun h => by subst h; exact Nat.beq_refl _⟩
theorem sw_cases (k k' x : Nat) : (x = k ∧ sw k k' x = k') ∨ (x ≠ k ∧ x = k' ∧ sw k k' x = k) ∨ (x ≠ k ∧ x ≠ k' ∧ sw k k' x = x) := by
  unfold sw
  cases h : Nat.beq x k with
  | true => exact .inl ⟨Nat.eq_of_beq_eq_true h, rfl⟩
  | false =>
    have hn : x ≠ k := fun e => by rw [(beq_iff' x k).2 e] at h; cases h
    cases h2 : Nat.beq x k' with
    | true => exact .inr (.inl ⟨hn, Nat.eq_of_beq_eq_true h2, rfl⟩)
    | false => exact .inr (.inr ⟨hn, fun e => (by rw [(beq_iff' x k').2 e] at h2; cases h2), rfl⟩)
theorem sw_sw (k k' x : Nat) : sw k k' (sw k k' x) = x := by
  rcases sw_cases k k' x with ⟨a, b⟩ | ⟨a, b, c⟩ | ⟨a, b, c⟩
  · rw [b]
    rcases sw_cases k k' k' with ⟨d, e⟩ | ⟨d, e, f⟩ | ⟨d, e, f⟩
    · rw [e, d, a]
    · rw [f, a]
    · exact absurd rfl e
  · rw [c, sw_k, b]
  · rw [c, c]
theorem sw_inj {k k' x y : Nat} (h : sw k k' x = sw k k' y) : x = y := by rw [← sw_sw k k' x, h, sw_sw]
theorem sw_lt {k k' x n : Nat} (h1 : k < n) (h2 : k' < n) (h : x < n) : sw k k' x < n := by
  rcases sw_cases k k' x with ⟨a, b⟩ | ⟨a, b, c⟩ | ⟨a, b, c⟩ <;> omega
def MV.sw1 (k k' : Nat) : MV → MV
  | .own x => .own (Lo.sw k k' x)
  | .loc x i j => .loc (Lo.sw k k' x) i j
  | .win x i j => .win (Lo.sw k k' x) i j
  | .tup _ => .p .any
  | m => m
def swT (k k' : Nat) : List (Nat × MV) → List (Nat × MV)
  | [] => []
  | (t, m) :: l => (t, m.sw1 k k') :: swT k k' l
def swR (k k' : Nat) : List (Nat × Row) → List (Nat × Row)
  | [] => []
  | (x, r) :: l => (Lo.sw k k' x, r) :: swR k k' l
def St.swap (st : St) (k k' : Nat) : St := { n := st.n, nk := st.nk, t := swT k k' st.t, rows := swR k k' st.rows, x := st.x }
theorem look_swT (k k' : Nat) : ∀ (l : List (Nat × MV)) (t : Nat), look (swT k k' l) t = (look l t).map (MV.sw1 k k')
  | [], t => rfl
  | (x, m) :: l, t => by
    simp only [swT, look]
    cases Nat.beq x t with
    | true => rfl
    | false => exact look_swT k k' l t
theorem look_swR (k k' : Nat) : ∀ (l : List (Nat × Row)) (x : Nat), look (swR k k' l) x = look l (Lo.sw k k' x)
  | [], x => rfl
  | (y, r) :: l, x => by
    simp only [swR]
    rw [look_cons, look_cons, look_swR k k' l x]
    by_cases h : y = Lo.sw k k' x
    · rw [if_pos h, if_pos (by rw [h, sw_sw])]
    · rw [if_neg h, if_neg (fun e => h (by rw [← e, sw_sw]))]
theorem SR.swap {st : St} {w0 : Bs} {a : Act} {w : World} (s : SR w0 st a w) {k k' : Nat} (hk : 0 < k ∧ k < st.nk) (hk' : 0 < k' ∧ k' < st.nk) : SR w0 (st.swap k k') a w := by
  obtain ⟨L, cp, sz, ln, s⟩ := s
  have hlive : ∀ x, liveIn (st.swap k k').rows x ↔ liveIn st.rows (Lo.sw k k' x) := fun x => by
    unfold liveIn St.swap
    dsimp only
    rw [look_swR]
  have hb : ∀ b, stab w0 st.rows st.x L w.heap b → stab w0 (st.swap k k').rows st.x (fun x => L (Lo.sw k k' x)) w.heap b ∧ w.heap[b]? = w.heap[b]? := fun b hb =>
    ⟨⟨hb.1, hb.2.1, fun x hx => hb.2.2 _ ((hlive x).1 hx)⟩, rfl⟩
  have h0 : Lo.sw k k' 0 = 0 := by
    rcases sw_cases k k' 0 with ⟨a, b⟩ | ⟨a, b, c⟩ | ⟨a, b, c⟩
    · omega
    · omega
    · exact c
  refine ⟨fun x => L (Lo.sw k k' x), fun x => cp (Lo.sw k k' x), fun x => sz (Lo.sw k k' x), fun x => ln (Lo.sw k k' x), s.defers, s.size, fun t => ?_, fun x r hx => ?_, fun x y hx hy he => sw_inj (s.inj _ _ ((hlive x).1 hx) ((hlive y).1 hy) he), fun x hx => ?_, s.below, s.pos, (fun b c h => ?_), fun b o hx => ⟨(s.frag b o hx).1, (s.frag b o hx).2.1, fun x hxl => (s.frag b o hx).2.2 _ ((hlive x).1 hxl)⟩⟩
  · have hg : (st.swap k k').get t = (st.get t).sw1 k k' := by
      unfold St.get St.swap
      simp only [look_swT]
      cases look st.t t <;> rfl
    rw [hg]
    have hm := s.tmps t
    cases hgt : st.get t with
    | p m => rw [hgt] at hm; exact VR.mono hm hb
    | own x => rw [hgt] at hm; exact ⟨by rw [hm.1]; simp only [sw_sw], sw_lt hk.2 hk'.2 hm.2⟩
    | loc x i j => rw [hgt] at hm; exact ⟨by rw [hm.1]; simp only [sw_sw], sw_lt hk.2 hk'.2 hm.2⟩
    | win x i j => rw [hgt] at hm; exact ⟨by rw [hm.1]; simp only [sw_sw], sw_lt hk.2 hk'.2 hm.2⟩
    | undef => rw [hgt] at hm; exact hm
    | tup xs => exact VR.any
  · have hx' : look st.rows (Lo.sw k k' x) = some r := by rw [← look_swR]; exact hx
    obtain ⟨g1, g2, g3, g4⟩ := s.rows _ _ hx'
    refine ⟨g1.mono hb rfl, ?_, g3, g4⟩
    rcases g2 with g2 | ⟨g2, g5⟩
    · exact .inl g2
    · exact .inr ⟨by rw [← h0] at g2; exact sw_inj g2, g5⟩
  · have := s.keys _ ((hlive x).1 hx)
    have h2 := sw_lt hk.2 hk'.2 this
    rwa [sw_sw] at h2
  · rw [h0]; exact s.pin b c h
theorem Lg.swap {st st' : St} (k k' : Nat) (hk : (Nat.blt 0 k && Nat.blt k st.nk && Nat.blt 0 k' && Nat.blt k' st.nk) = true) (h : Lg (st.swap k k') st') : Lg st st' := fun w0 a w s => by
  simp only [Bool.and_eq_true, Nat.blt_eq] at hk
  exact h w0 a w (s.swap ⟨hk.1.1.1, hk.1.1.2⟩ ⟨hk.1.2, hk.2⟩)
/-! A row that is seen through a window at its front becomes that window. -/
theorem SRL.know {st : St} {w0 : Bs} {a : Act} {w : World} {L cp sz ln : Nat → Nat} (s : SRL w0 st a w L cp sz ln) {t : Nat} {m : MV} (hm : MR st.nk w.heap (stab w0 st.rows st.x L w.heap) L cp sz ln m (a.tmps.getD t Go.undef)) : SRL w0 { st with t := (t, m) :: st.t } a w L cp sz ln := by
  refine ⟨s.defers, s.size, fun u => ?_, s.rows, s.inj, s.keys, s.below, s.pos, s.pin, s.frag⟩
  have hg : St.get { st with t := (t, m) :: st.t } u = if t = u then m else st.get u := get_put st t u m
  rw [hg]
  by_cases h : t = u
  · subst h; rw [if_pos rfl]; exact hm
  · rw [if_neg h]; exact s.tmps u
def St.shr (st : St) (ts : List Nat) (k : Nat) (r : Row) (n : Nat) : St := { n := st.n, nk := st.nk, t := ts.map (fun t => (t, MV.own k)) ++ killT k st.t, rows := (k, ⟨r.ty, r.sz, r.els.take n⟩) :: st.rows, x := st.x }
theorem SR.shr {st : St} {w0 : Bs} {a : Act} {w : World} (s : SR w0 st a w) {ts : List Nat} {k n : Nat} {r : Row} (hr : look st.rows k = some r) (hk0 : Nat.beq k 0 = false) (hn : n ≤ r.els.length) (hts : ∀ t ∈ ts, st.get t = .win k 0 n) : SR w0 (st.shr ts k r n) a w := by
  obtain ⟨L, cp, sz, ln, s⟩ := s
  obtain ⟨g1, g2, g3, g4⟩ := s.rows k r hr
  have hvals : ∀ t ∈ ts, a.tmps.getD t Go.undef = .slice (some ⟨L k, 0, none⟩) n (cp k) ∧ k < st.nk := fun t ht => by
    have := s.tmps t
    rw [hts t ht] at this
    exact ⟨by rw [this.1]; simp, this.2⟩
  obtain ⟨L', cp', sz', ln', s', e1, e2, e3, e4⟩ := s.movedG (w' := w) (r' := ⟨r.ty, r.sz, r.els.take n⟩) hr (fun e => by rw [e] at hk0; cases hk0) (g := L k) (c := cp k) (.inl rfl) rfl rfl rfl (Nat.le_refl _) (fun _ _ _ => rfl) (fun L' h1 h2 hb => (g1.take n).mono (fun b hb' => hb b hb') rfl)
  have hl : ln' k = n := by rw [e3]; simp; omega
  have key : ∀ l : List Nat, (∀ t ∈ l, t ∈ ts) → SRL w0 { n := st.n, nk := st.nk, t := l.map (fun t => (t, MV.own k)) ++ killT k st.t, rows := (k, ⟨r.ty, r.sz, r.els.take n⟩) :: st.rows, x := st.x } a w L' cp' sz' ln' := by
    intro l
    induction l with
    | nil => intro _; exact s'
    | cons t l ih =>
      intro hl2
      have h := ih (fun u hu => hl2 u (by simp [hu]))
      obtain ⟨v1, v2⟩ := hvals t (hl2 t (by simp))
      exact h.know (t := t) (m := .own k) ⟨by rw [v1, e1, e2, hl], v2⟩
  exact ⟨L', cp', sz', ln', key ts (fun _ h => h)⟩
theorem E.shrC {q : Bool} {P : Program} {ops : Array Oper} {rest : List Oper} {T : St → Prop} {st : St} {d : Nat} {ty : TypeId} {pos : String} {aft : Array Edge} {f : Nat} {x : Operand} {ats : Array TypeId} (tt : Tab P) (ts : List Nat) {k n : Nat} {r : Row}
    (hx : st.ev x = .win k 0 n) (hr : look st.rows k = some r) (hk0 : Nat.beq k 0 = false) (hn : n ≤ r.els.length) (hts : ∀ t ∈ ts, st.get t = .win k 0 n)
    (kk : wl q P ops tt.l T (⟨some d, .call { callee := .value (.func f), args := #[x], argTypes := ats }, ty, pos, aft, none⟩ :: rest) (st.shr ts k r n)) :
    W q P ops (⟨some d, .call { callee := .value (.func f), args := #[x], argTypes := ats }, ty, pos, aft, none⟩ :: rest) T st := by
  have k' := wl_sound tt kk
  cases q
  · exact fun w0 a w Qr hs hT => k' w0 a w Qr (hs.shr hr hk0 hn hts) hT
  · exact fun w0 a w Kr hs hT => k' w0 a w Kr (hs.shr hr hk0 hn hts) hT
def loopQG {α : Type} (I : α → Prop) (S : α → St) (μ : α → Nat) (x : α) (Q : Exit → St → Prop) : Exit → St → Prop
  | .normal, st => ∃ y, I y ∧ μ y < μ x ∧ Lg st (S y)
  | e, st => Q e st
open Classical in
theorem Wc.loopG {P : Program} {st : St} {Q : Exit → St → Prop} {α : Type} {c : Code} (I : α → Prop) (S : α → St) (μ : α → Nat) (x0 : α) (h0 : I x0) (hle : Lg st (S x0))
    (round : ∀ x, I x → Wc P c (loopQG I S μ x Q) (S x)) : Wc P (.loop c) Q st := fun w0 a w Qr hs hq => by
  let R (n : Nat) (a : Act) (w : World) : Prop := ∃ x, I x ∧ SR w0 (S x) a w ∧ μ x = n
  let m (a : Act) (w : World) : Nat := if h : ∃ n, R n a w then Classical.choose (exists_min h) else 0
  refine wp_loop (fun a w => ∃ n, R n a w) m ⟨_, x0, h0, hle _ _ _ hs, rfl⟩ fun a w hI => ?_
  have hm : m a w = Classical.choose (exists_min hI) := by simp only [m]; rw [dif_pos hI]
  obtain ⟨⟨x, hx, hsx, hmx⟩, _⟩ := Classical.choose_spec (exists_min hI)
  refine round x hx w0 a w _ hsx fun e st' a' w' hQ hs' => ?_
  cases e with
  | normal =>
    obtain ⟨y, hy, hlt, hle'⟩ := hQ
    have hex : ∃ n, R n a' w' := ⟨_, y, hy, hle' _ _ _ hs', rfl⟩
    refine ⟨hex, ?_⟩
    have hm' : m a' w' = Classical.choose (exists_min hex) := by simp only [m]; rw [dif_pos hex]
    rw [hm, hm', ← hmx]
    exact Nat.lt_of_le_of_lt ((Classical.choose_spec (exists_min hex)).2 _ ⟨y, hy, hle' _ _ _ hs', rfl⟩) hlt
  | exit id => exact hq _ st' _ _ hQ hs'
  | goto l => exact hq _ st' _ _ hQ hs'
  | ret => exact hq _ st' _ _ hQ hs'
  | panic ch => exact hq _ st' _ _ hQ hs'
  | outgrown => exact hq _ st' _ _ hQ hs'
theorem E.loopG {P : Program} (tt : Tab P) {st : St} {Q : Exit → St → Prop} {α : Type} {c : Code} (I : α → Prop) (S : α → St) (μ : α → Nat) (x0 : α) (h0 : I x0) (hle : Lg st (S x0))
    (round : ∀ x, I x → wcl P tt.l c (loopQG I S μ x Q) (S x)) : Wc P (.loop c) Q st :=
  Wc.loopG I S μ x0 h0 hle fun x hx => wcl_sound tt c (round x hx)
end Go.Lo
namespace Go.Proofs.Ythjbcgdmdmfijaa
open Go.Lo
attribute [local irreducible] W Wc


end Go.Proofs.Ythjbcgdmdmfijaa
