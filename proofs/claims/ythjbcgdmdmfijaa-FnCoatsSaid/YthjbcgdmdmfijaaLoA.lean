/- A logical layer over the walk, first half: what it is for: contracts of Go functions over values that are read out of memory. -/
import Derived.Below
import Derived.Deep.Quiet
import Derived.StillTail
import Derived.IntWalk
import Derived.KernelRfl
import Derived.Laws.MakeOwn
set_option linter.unusedVariables false
set_option linter.unusedSimpArgs false
set_option maxRecDepth 100000
namespace Go.Lo
open Go.RowKit

inductive PV where
  | int (k : IntKind) (n : Int)
  | bool (b : Bool)
  | str (s : ByteArray)
  | agg (cs : List PV)
  | view (sz : Nat) (els : List (List PV))
  | ref (cs : List PV)
  | nil
  | any
  | clo (f : Nat) (caps : List PV)
  | raw (v : Value)

def hcell (h : Array Obj) (b off : Nat) : Option Value :=
  match h[b]? with
  | some (.cells c _ _) => c[off]?
  | _ => none

theorem cell?_eq (w : World) (b off : Nat) : w.cell? ⟨b, off, none⟩ = hcell w.heap b off := by
  unfold World.cell? hcell
  cases w.heap[b]? with
  | none => rfl
  | some o => cases o <;> rfl

theorem hcell_congr {h h' : Array Obj} {b : Nat} (e : h'[b]? = h[b]?) (off : Nat) : hcell h' b off = hcell h b off := by
  unfold hcell; rw [e]

theorem add_mk (b off n : Nat) : Addr.add ⟨b, off, none⟩ n = ⟨b, off + n, none⟩ := by
  unfold Addr.add; split
  · subst_vars; rfl
  · rfl

/-- The value v, in the heap h, reads as m; all memory that is met lies in blocks of S. -/
inductive VR (h : Array Obj) (S : Nat → Prop) : PV → Value → Prop
  | int {k n} : VR h S (.int k n) (.int k n)
  | bool {b} : VR h S (.bool b) (.bool b)
  | str {s} : VR h S (.str s) (.string s)
  | agg {cs : List PV} {a : Array Value} (hl : cs.length = a.size) (hv : ∀ (i : Nat) c u, cs[i]? = some c → a[i]? = some u → VR h S c u) : VR h S (.agg cs) (.agg a)
  | nil : VR h S .nil (.slice none 0 0)
  | any {v} : VR h S .any v
  | raw {v} : VR h S (.raw v) v
  | clo {f : Nat} {cs : List PV} {a : Array Value} (hl : cs.length = a.size) (hv : ∀ (i : Nat) c u, cs[i]? = some c → a[i]? = some u → VR h S c u) : VR h S (.clo f cs) (.func (.func f) #[] a)
  | view0 {sz ao c} : VR h S (.view sz []) (.slice ao 0 c)
  | view {sz els b off n c} (U : Nat → Nat → Value) (hn : els.length = n) (hc : n ≤ c) (hS : S b) (hsz : ∀ e ∈ els, e.length = sz)
      (hU : ∀ (i : Nat) e (j : Nat) m, els[i]? = some e → e[j]? = some m → hcell h b (off + (i * sz + j)) = some (U i j) ∧ (U i j).oneCell' = true)
      (hV : ∀ (i : Nat) e (j : Nat) m, els[i]? = some e → e[j]? = some m → VR h S m (U i j)) : VR h S (.view sz els) (.slice (some ⟨b, off, none⟩) n c)
  | ref {cs b off} (U : Nat → Value) (hS : S b) (hU : ∀ (j : Nat) m, cs[j]? = some m → hcell h b (off + j) = some (U j) ∧ (U j).oneCell' = true)
      (hV : ∀ (j : Nat) m, cs[j]? = some m → VR h S m (U j)) : VR h S (.ref cs) (.pointer (some ⟨b, off, none⟩))

theorem VR.mono {h h' : Array Obj} {S S' : Nat → Prop} {m : PV} {v : Value} (hv : VR h S m v) (hb : ∀ b, S b → S' b ∧ h'[b]? = h[b]?) : VR h' S' m v := by
  induction hv with
  | int => exact .int
  | bool => exact .bool
  | str => exact .str
  | agg hl _ ih => exact .agg hl ih
  | nil => exact .nil
  | any => exact .any
  | raw => exact .raw
  | clo hl _ ih => exact .clo hl ih
  | view0 => exact .view0
  | view U hn hc hS hsz hU _ ih => exact .view U hn hc (hb _ hS).1 hsz (fun i e j m he hm => by rw [hcell_congr (hb _ hS).2]; exact hU i e j m he hm) ih
  | ref U hS hU _ ih => exact .ref U (hb _ hS).1 (fun j m hm => by rw [hcell_congr (hb _ hS).2]; exact hU j m hm) ih

theorem VR.nil_view {h : Array Obj} {S : Nat → Prop} {v : Value} (hv : VR h S .nil v) (sz : Nat) : VR h S (.view sz []) v := by
  cases hv; exact .view0

/-- Values without memory. -/
def PV.val : PV → Option Value
  | .int k n => some (.int k n)
  | .bool b => some (.bool b)
  | .str s => some (.string s)
  | .nil => some (.slice none 0 0)
  | .agg cs => (vals cs).map fun l => .agg l.toArray
  | .raw v => some v
  | _ => none
where vals : List PV → Option (List Value)
  | [] => some []
  | c :: cs => match c with
    | .int k n => (vals cs).map (.int k n :: ·)
    | .bool b => (vals cs).map (.bool b :: ·)
    | .str s => (vals cs).map (.string s :: ·)
    | .nil => (vals cs).map (.slice none 0 0 :: ·)
    | .raw v => (vals cs).map (v :: ·)
    | _ => none

theorem VR.vals {h : Array Obj} {S : Nat → Prop} : ∀ (cs : List PV) (l : List Value) (l' : List Value), PV.val.vals cs = some l → cs.length = l'.length →
    (∀ (i : Nat) c u, cs[i]? = some c → l'[i]? = some u → VR h S c u) → l' = l
  | [], l, l', h1, h2, _ => by
    simp [PV.val.vals] at h1; subst h1
    exact List.eq_nil_of_length_eq_zero (by simpa using h2.symm)
  | c :: cs, l, [], h1, h2, h3 => by simp at h2
  | c :: cs, l, u :: l', h1, h2, h3 => by
    have hcu := h3 0 c u rfl rfl
    have hrest : ∀ (i : Nat) c u, cs[i]? = some c → l'[i]? = some u → VR h S c u := fun i c u hc hu => h3 (i + 1) c u (by simpa using hc) (by simpa using hu)
    cases c <;> simp only [PV.val.vals, Option.map_eq_some_iff] at h1 <;> try (cases h1; done)
    all_goals
      obtain ⟨l0, hl0, rfl⟩ := h1
      have := VR.vals cs l0 l' hl0 (by simpa using h2) hrest
      subst this
      cases hcu; rfl

theorem VR.of_val {h : Array Obj} {S : Nat → Prop} {m : PV} {v u : Value} (hm : m.val = some u) (hv : VR h S m v) : v = u := by
  cases hv <;> simp only [PV.val, Option.some.injEq, Option.map_eq_some_iff] at hm <;> try (cases hm; done)
  case int => exact hm
  case bool => exact hm
  case str => exact hm
  case nil => exact hm
  case raw => exact hm
  case agg cs a hl hv =>
    obtain ⟨l, hl', rfl⟩ := hm
    have := VR.vals cs l a.toList hl' (by simpa using hl) (fun i c u hc hu => hv i c u hc (by simpa using hu))
    rw [← this]

/-! ### Locals -/

inductive MV where
  | p (v : PV)
  | own (k : Nat)
  | loc (k i j : Nat)
  | win (k i n : Nat)
  | undef
  | tup (xs : List MV)

/-- A row of the call's own: the cells of an element, the elements. -/
structure Row where
  ty : Nat
  sz : Nat
  els : List (List PV)

def look {α : Type} : List (Nat × α) → Nat → Option α
  | [], _ => none
  | (k, x) :: r, t => bif Nat.beq k t then some x else look r t

/-- Blocks that are known as they stand. -/
abbrev Frag := Nat → Option Obj
def Frag.nil : Frag := fun _ => none

structure St where
  n : Nat
  nk : Nat
  t : List (Nat × MV)
  rows : List (Nat × Row)
  x : Frag := Frag.nil

def St.get (st : St) (t : Nat) : MV := (look st.t t).getD (.p .any)
def St.put (st : St) (d : Nat) (m : MV) : St := { st with t := (d, m) :: st.t }
def liveIn (rows : List (Nat × Row)) (k : Nat) : Prop := (look rows k).isSome = true
abbrev St.live (st : St) (k : Nat) : Prop := liveIn st.rows k

def MR1 (nk : Nat) (h : Array Obj) (S : Nat → Prop) (L cp sz ln : Nat → Nat) : MV → Value → Prop
  | .p m, v => VR h S m v
  | .own k, v => v = .slice (some ⟨L k, 0, none⟩) (ln k) (cp k) ∧ k < nk
  | .loc k i j, v => v = .pointer (some ⟨L k, i * sz k + j, none⟩) ∧ k < nk
  | .win k i n, v => v = .slice (some ⟨L k, if cp k = i then 0 else i * sz k, none⟩) n (cp k - i) ∧ k < nk
  | .undef, v => v = Go.undef
  | .tup _, _ => False

def MR (nk : Nat) (h : Array Obj) (S : Nat → Prop) (L cp sz ln : Nat → Nat) : MV → Value → Prop
  | .tup xs, v => ∃ a : Array Value, v = .tuple a ∧ xs.length = a.size ∧ ∀ (i : Nat) x u, xs[i]? = some x → a[i]? = some u → MR1 nk h S L cp sz ln x u
  | m, v => MR1 nk h S L cp sz ln m v

def RowR (h : Array Obj) (S : Nat → Prop) (b cp : Nat) (r : Row) : Prop :=
  ∃ C, h[b]? = some (.cells C r.ty (0, 0)) ∧ C.size = cp * r.sz ∧ r.els.length ≤ cp ∧ cp ≤ maxLen ∧ (∀ e ∈ r.els, e.length = r.sz) ∧
    ∀ (i : Nat) e (j : Nat) m, r.els[i]? = some e → e[j]? = some m → ∃ u, C[i * r.sz + j]? = some u ∧ u.oneCell' = true ∧ VR h S m u

/-- Where a call began: its world, what it may read, what of it it may write. -/
structure Bs where
  w : World
  S : Nat → Prop
  M : Nat → Prop
  pin : Option (Nat × Nat)

def Bs.own (B : Bs) (k b : Nat) : Prop := B.w.heap.size ≤ b ∨ (k = 0 ∧ B.M b)
def Bs.rd (B : Bs) (b : Nat) : Prop := B.S b ∨ B.w.heap.size ≤ b

/-- The world w, seen from the base. -/
structure Under (B : Bs) (w : World) : Prop where
  os : w.os = B.w.os
  tape : w.tape = B.w.tape
  output : w.output = B.w.output
  size : B.w.heap.size ≤ w.heap.size
  block : ∀ b, b < B.w.heap.size → ¬ B.M b → w.heap[b]? = B.w.heap[b]?

theorem Under.step {B : Bs} {w w' : World} (h : Under B w) (os : w'.os = w.os) (tape : w'.tape = w.tape) (output : w'.output = w.output) (size : w.heap.size ≤ w'.heap.size)
    (block : ∀ b, b < B.w.heap.size → ¬ B.M b → w'.heap[b]? = w.heap[b]?) : Under B w' :=
  ⟨os.trans h.os, tape.trans h.tape, output.trans h.output, Nat.le_trans h.size size, fun b h1 h2 => (block b h1 h2).trans (h.block b h1 h2)⟩

def stab (B : Bs) (rows : List (Nat × Row)) (x : Frag) (L : Nat → Nat) (h : Array Obj) (b : Nat) : Prop := b < h.size ∧ (B.rd b ∧ x b = none) ∧ ∀ k, liveIn rows k → L k ≠ b

structure SRL (w0 : Bs) (st : St) (a : Act) (w : World) (L cp sz ln : Nat → Nat) : Prop where
  defers : a.defers = []
  size : a.tmps.size = st.n
  tmps : ∀ t, MR st.nk w.heap (stab w0 st.rows st.x L w.heap) L cp sz ln (st.get t) (a.tmps.getD t Go.undef)
  rows : ∀ k r, look st.rows k = some r → RowR w.heap (stab w0 st.rows st.x L w.heap) (L k) (cp k) r ∧ w0.own k (L k) ∧ sz k = r.sz ∧ ln k = r.els.length
  inj : ∀ k k', st.live k → st.live k' → L k = L k' → k = k'
  keys : ∀ k, st.live k → k < st.nk
  below : Under w0 w
  pos : 0 < st.nk
  pin : ∀ b c, w0.pin = some (b, c) → L 0 = b ∧ cp 0 = c
  frag : ∀ b o, st.x b = some o → w.heap[b]? = some o ∧ (w0.w.heap.size ≤ b ∨ w0.M b) ∧ ∀ k, st.live k → L k ≠ b

def SR (w0 : Bs) (st : St) (a : Act) (w : World) : Prop := ∃ L cp sz ln, SRL w0 st a w L cp sz ln

def Ext (w w' : World) : Prop := Below w.heap.size w w'

theorem Ext.refl (w : World) : Ext w w := Below.refl _ _
theorem Ext.trans {a b c : World} (h : Ext a b) (k : Ext b c) : Ext a c := Below.trans h (Below.mono k h.size)

theorem Under.grow {B : Bs} {w w' : World} (h : Under B w) (e : Ext w w') : Under B w' := h.step e.os e.tape e.output e.size (fun b h1 _ => e.block b (Nat.lt_of_lt_of_le h1 h.size))

theorem MR1.mono {nk : Nat} {h h' : Array Obj} {S S' : Nat → Prop} {L cp sz ln : Nat → Nat} {m : MV} {v : Value} (hm : MR1 nk h S L cp sz ln m v) (hb : ∀ b, S b → S' b ∧ h'[b]? = h[b]?) : MR1 nk h' S' L cp sz ln m v := by
  cases m with
  | p m => exact VR.mono hm hb
  | own k => exact hm
  | loc k i j => exact hm
  | win k i n => exact hm
  | undef => exact hm
  | tup xs => exact hm

theorem MR.mono {nk : Nat} {h h' : Array Obj} {S S' : Nat → Prop} {L cp sz ln : Nat → Nat} {m : MV} {v : Value} (hm : MR nk h S L cp sz ln m v) (hb : ∀ b, S b → S' b ∧ h'[b]? = h[b]?) : MR nk h' S' L cp sz ln m v := by
  cases m with
  | p m => exact VR.mono hm hb
  | own k => exact hm
  | loc k i j => exact hm
  | win k i n => exact hm
  | undef => exact hm
  | tup xs =>
    obtain ⟨a, rfl, hl, hv⟩ := hm
    exact ⟨a, rfl, hl, fun i x u hx hu => (hv i x u hx hu).mono hb⟩

theorem RowR.mono {h h' : Array Obj} {S S' : Nat → Prop} {b cp : Nat} {r : Row} (hr : RowR h S b cp r) (hb : ∀ b, S b → S' b ∧ h'[b]? = h[b]?) (hbb : h'[b]? = h[b]?) : RowR h' S' b cp r := by
  obtain ⟨C, h1, h2, h3, h4, h5, h6⟩ := hr
  exact ⟨C, by rw [hbb, h1], h2, h3, h4, h5, fun i e j m he hm => let ⟨u, hu, h1, hv⟩ := h6 i e j m he hm; ⟨u, hu, h1, hv.mono hb⟩⟩

theorem RowR.lt {h : Array Obj} {S : Nat → Prop} {b cp : Nat} {r : Row} (hr : RowR h S b cp r) : b < h.size := by
  obtain ⟨C, h1, _⟩ := hr
  rcases Nat.lt_or_ge b h.size with hlt | hge
  · exact hlt
  · rw [Array.getElem?_eq_none hge] at h1; cases h1

theorem live_look {st : St} {k : Nat} (h : st.live k) : ∃ r, look st.rows k = some r := Option.isSome_iff_exists.1 h

theorem lt_of_get {h : Array Obj} {b : Nat} {o : Obj} (e : h[b]? = some o) : b < h.size := by
  rcases Nat.lt_or_ge b h.size with hlt | hge
  · exact hlt
  · rw [Array.getElem?_eq_none hge] at e; cases e

theorem SRL.live_lt {w0 : Bs} {st : St} {a : Act} {w : World} {L cp sz ln : Nat → Nat} (s : SRL w0 st a w L cp sz ln) {k : Nat} (h : st.live k) : L k < w.heap.size := by
  obtain ⟨r, hr⟩ := live_look h
  exact (s.rows k r hr).1.lt

theorem SRL.frag_none {w0 : Bs} {st : St} {a : Act} {w : World} {L cp sz ln : Nat → Nat} (s : SRL w0 st a w L cp sz ln) {b : Nat} (h : w.heap.size ≤ b) : st.x b = none := by
  cases hx : st.x b with
  | none => rfl
  | some o => have := lt_of_get (s.frag b o hx).1; omega

theorem SRL.frag_live {w0 : Bs} {st : St} {a : Act} {w : World} {L cp sz ln : Nat → Nat} (s : SRL w0 st a w L cp sz ln) {k : Nat} (h : st.live k) : st.x (L k) = none := by
  cases hx : st.x (L k) with
  | none => rfl
  | some o => exact ((s.frag _ o hx).2.2 k h rfl).elim

/-- The world grows; what was there is as it was. -/
theorem SRL.grow {w0 : Bs} {st : St} {a : Act} {w w' : World} {L cp sz ln : Nat → Nat} (s : SRL w0 st a w L cp sz ln) (e : Ext w w') : SRL w0 st a w' L cp sz ln := by
  have hb : ∀ b, stab w0 st.rows st.x L w.heap b → stab w0 st.rows st.x L w'.heap b ∧ w'.heap[b]? = w.heap[b]? := fun b hb =>
    ⟨⟨Nat.lt_of_lt_of_le hb.1 e.size, hb.2⟩, e.block b hb.1⟩
  exact ⟨s.defers, s.size, fun t => (s.tmps t).mono hb, fun k r hr => ⟨(s.rows k r hr).1.mono hb (e.block _ (s.rows k r hr).1.lt), (s.rows k r hr).2⟩, s.inj, s.keys, s.below.grow e, s.pos, s.pin, fun b o hx => ⟨(e.block b (lt_of_get (s.frag b o hx).1)).trans (s.frag b o hx).1, (s.frag b o hx).2⟩⟩

theorem SR.grow {w0 : Bs} {st : St} {a : Act} {w w' : World} (s : SR w0 st a w) (e : Ext w w') : SR w0 st a w' :=
  let ⟨L, cp, sz, ln, s⟩ := s; ⟨L, cp, sz, ln, s.grow e⟩

theorem get_put (st : St) (d t : Nat) (m : MV) : (st.put d m).get t = if d = t then m else st.get t := by
  unfold St.get St.put
  simp only [look]
  by_cases h : d = t
  · subst h; simp [Nat.beq_refl]
  · have : Nat.beq d t = false := by
      cases hb : Nat.beq d t with
      | false => rfl
      | true => exact absurd (Nat.eq_of_beq_eq_true hb) h
    rw [this, if_neg h]; rfl

theorem SRL.put {w0 : Bs} {st : St} {a : Act} {w : World} {L cp sz ln : Nat → Nat} (s : SRL w0 st a w L cp sz ln) {d : Nat} (hd : d < st.n) {m : MV} {v : Value}
    (hm : MR st.nk w.heap (stab w0 st.rows st.x L w.heap) L cp sz ln m v) : SRL w0 (st.put d m) (a.put (some d) v) w L cp sz ln := by
  refine ⟨s.defers, by simp [Act.put, s.size, St.put], fun t => ?_, s.rows, s.inj, s.keys, s.below, s.pos, s.pin, s.frag⟩
  rw [get_put]
  by_cases h : d = t
  · subst h
    have : (a.put (some d) v).tmps.getD d Go.undef = v := by
      have hlt : d < a.tmps.size := by rw [s.size]; exact hd
      simp [Act.put, hlt]
    rw [this, if_pos rfl]; exact hm
  · have : (a.put (some d) v).tmps.getD t Go.undef = a.tmps.getD t Go.undef := by
      simp [Act.put, Array.getElem?_setIfInBounds_ne, h]
    rw [this, if_neg h]; exact s.tmps t

theorem SR.put {w0 : Bs} {st : St} {a : Act} {w : World} {L cp sz ln : Nat → Nat} (s : SRL w0 st a w L cp sz ln) {d : Nat} (hd : d < st.n) {m : MV} {v : Value}
    (hm : MR st.nk w.heap (stab w0 st.rows st.x L w.heap) L cp sz ln m v) : SR w0 (st.put d m) (a.put (some d) v) w := ⟨L, cp, sz, ln, s.put hd hm⟩

end Go.Lo
namespace Go.Lo
open Go.RowKit

section
variable {P : Program} {ops : Array Oper} {md : Region.Mode} {C : World → Prop}

def wpAnyLC (P : Program) (md : Region.Mode) (ops : Array Oper) (C : World → Prop) (n : Nat) (L : Array Bool → Act → Prop) : Nat → Array Bool → Act → Prop
  | 0, listed, a => L listed a
  | f + 1, listed, a =>
    Region.ready md ops listed ≠ [] ∧ ∀ i ∈ Region.ready md ops listed, i < n ∧ qOp P ops C i (wpAnyLC P md ops C n L f (listed.setIfInBounds i true)) a

theorem wpAny_of_headC {n g : Nat} {L : Array Bool → Act → Prop} {Q' : Exit → Act → World → Prop} (hL : ∀ listed a w, C w → L listed a → wpAny P md ops Q' g listed a w) :
    ∀ (f : Nat) (listed : Array Bool) (a : Act) (w : World), C w → wpAnyLC P md ops C n L f listed a → wpAny P md ops Q' (f + g) listed a w
  | 0, listed, a, w, hC, h => by rw [Nat.zero_add]; exact hL _ _ _ hC h
  | f + 1, listed, a, w, hC, h => by
    rw [show f + 1 + g = (f + g) + 1 by omega]
    exact ⟨fun h0 => absurd h0 h.1, fun i hi => wpOp_of_qOp hC (fun a' w' hC' h' => wpAny_of_headC hL f _ a' w' hC' h') (h.2 i hi).2⟩

theorem wpAnyLC_first {n i : Nat} {oi : Oper} {v : Value} {L : Array Bool → Act → Prop} (hi : ops[i]? = some oi) (hsel : ∀ (j : Nat) (o : Oper) cs b, ops[j]? = some o → o.op ≠ .select cs b)
    (hs : Region.sinkB md ops n = true) (hc : Region.chainB md ops n = true) (hn : n < ops.size) (hin : i < n)
    (hdone : ∀ listed a, L listed a → ∀ j ∈ Region.ready md ops listed, n ≤ j) :
    ∀ (f : Nat) (listed : Array Bool) (a : Act), HeadInv md ops n listed →
      (∀ j oj, ops[j]? = some oj → j ≠ i → listed.getD j true = false → (∀ e ∈ oj.after, Region.binds md e = true → e.on ≠ i) → oi.apart ops oj = true) →
      i ∈ Region.ready md ops listed → YieldsIn P ops C oi v a →
      wpAnyLC P md ops C n L f (listed.setIfInBounds i true) (a.put oi.dst v) → wpAnyLC P md ops C n L (f + 1) listed a := by
  intro f
  induction f with
  | zero =>
    intro listed a inv _ hr hy H
    have hun := (mem_ready.1 hr).1
    refine ⟨fun h => (by rw [h] at hr; cases hr), fun j hj => ?_⟩
    have hjn : j < n := by
      rcases Nat.lt_or_ge j n with h | h
      · exact h
      · exact absurd hj (tail_waits hs hc hn inv _ i rfl hin hun j h)
    refine ⟨hjn, ?_⟩
    by_cases hji : j = i
    · subst hji; exact hy.qOp hi H
    · have := hdone _ _ H j (ready_mono hj hji)
      omega
  | succ f ih =>
    intro listed a inv hfree hr hy H
    have hun := (mem_ready.1 hr).1
    refine ⟨fun h => (by rw [h] at hr; cases hr), fun j hj => ?_⟩
    have hjn : j < n := by
      rcases Nat.lt_or_ge j n with h | h
      · exact h
      · exact absurd hj (tail_waits hs hc hn inv _ i rfl hin hun j h)
    refine ⟨hjn, ?_⟩
    by_cases hji : j = i
    · subst hji; exact hy.qOp hi H
    · have h1 := (H.2 j (ready_mono hj hji)).2
      obtain ⟨hjun, oj, hoj, hall⟩ := mem_ready.1 hj
      have hnot : ∀ e ∈ oj.after, Region.binds md e = true → e.on ≠ i := fun e he hb heq => by
        have h1 := hall e he hb
        rw [heq, getD_both hun] at h1
        cases h1
      have h2 := qOp_put hoj (hfree j oj hoj hji hjun hnot) (fun cs b => hsel i oi cs b hi) (fun cs b => hsel j oj cs b hoj) hy h1
      have hfree' : ∀ k ok, ops[k]? = some ok → k ≠ i → (listed.setIfInBounds j true).getD k true = false →
          (∀ e ∈ ok.after, Region.binds md e = true → e.on ≠ i) → oi.apart ops ok = true := fun k ok hk hki hun hno => by
        refine hfree k ok hk hki ?_ hno
        by_cases hjk : j = k
        · subst hjk; exact hjun
        · rw [getD_set_ne true hjk] at hun; exact hun
      refine qOp_mono (fun a' h3 => ih (listed.setIfInBounds j true) a' (inv.set hj hjn) hfree' (ready_mono hr (Ne.symm hji)) h3.1 ?_) h2
      rw [Array.setIfInBounds_comm _ _ hji]
      exact h3.2

theorem wpAnyLC_lex {n g : Nat} {Lq : Act → Prop} (hsel : Region.noSelect ops = true) (hs : Region.sinkB md ops n = true) (hc : Region.chainB md ops n = true) (hn : n < ops.size) :
    ∀ (l : List Oper) (k : Nat) (listed : Array Bool) (a : Act), (∀ j, j < l.length → l[j]? = ops[k + j]?) → k + l.length = n → HeadInv md ops n listed →
    Region.lexHead md ops g l.length k listed = true → wpQuiet P ops C Lq l a →
    wpAnyLC P md ops C n (fun listed' a' => Region.seqB md ops g n listed' = true ∧ Lq a') l.length listed a
  | [], k, listed, a, _, hk, _, hB, h => by
    have : k = n := by simpa using hk
    subst this
    exact ⟨by simpa [Region.lexHead] using hB, h⟩
  | o :: l, k, listed, a, hl, hk, inv, hB, h => by
    have h0 : ops[k]? = some o := by simpa using (hl 0 (by simp)).symm
    simp only [List.length_cons, Region.lexHead, Bool.and_eq_true] at hB
    obtain ⟨⟨hr, hf⟩, hB'⟩ := hB
    have hkn : k < n := by simp only [List.length_cons] at hk; omega
    have hr' : k ∈ Region.ready md ops listed := by simpa using hr
    have hst : qOp P ops C k (wpQuiet P ops C Lq l) a := by unfold qOp; simp only [h0]; exact h
    obtain ⟨v, hy, hK⟩ := yieldsIn_of_qOp h0 hst
    exact wpAnyLC_first h0 (Region.noSelect_spec hsel) hs hc hn hkn (fun listed' a' hL => seqB_ready hL.1) l.length listed a inv (Region.free_spec h0 hf) hr' hy
      (wpAnyLC_lex hsel hs hc hn l (k + 1) _ _ (fun j hj => by have := hl (j + 1) (by simp; omega); simpa [Nat.add_assoc, Nat.add_comm 1 j] using this) (by simp only [List.length_cons] at hk; omega) (inv.set hr' hkn) hB' hK)

theorem wp_region_quiet_tail {id : Nat} {Q : Exit → Act → World → Prop} {a : Act} {w : World} {l : List Oper} (n : Nat) (hm : P.follows .mixedOrders = true) (hB : Region.lexTailB .any l.toArray n = true)
    (hC : C { w with drawn := w.drawn + 1 })
    (h : wpQuiet P l.toArray C (fun a' => ∀ w', C w' → wpList P l.toArray Q (l.drop n) a' w') (l.take n) a) : (Code.region id l.toArray true).wp P Q a w := by
  simp only [Region.lexTailB, Bool.and_eq_true, decide_eq_true_eq] at hB
  obtain ⟨⟨⟨⟨hsel, hn⟩, hs⟩, hc⟩, hlex⟩ := hB
  have hn' : n < l.length := by simpa using hn
  have htl : (l.take n).length = n := by simp; omega
  have hdl : (l.drop n).length = l.toArray.size - n := by simp
  have inv0 : HeadInv .any l.toArray n (Array.replicate l.toArray.size false) :=
    ⟨by simp, fun j oj _ hl => (by rw [getD_replicate_false] at hl; cases hl), fun t _ ht => getD_in (by simpa using ht) (getD_replicate_false _ _)⟩
  have H := wpAnyLC_lex (md := .any) (g := l.toArray.size - n) hsel hs hc hn (l.take n) 0 _ a (fun j hj => by
    have hj' : j < n := by rw [htl] at hj; exact hj
    simp [hj']) (by simpa using htl) inv0 (by rw [htl]; exact hlex) h
  refine wp_region_any hm ?_
  have := wpAny_of_headC (Q' := Q) (g := l.toArray.size - n) (fun listed a' w' hC' hL => by
    have := wpAny_of_seq (md := .any) (Q' := Q) (l.drop n) n listed a' w' (fun j => by simp [List.getElem?_drop]) (by rw [hdl]; exact hL.1) (hL.2 w' hC')
    rwa [hdl] at this) _ _ _ _ hC H
  rw [htl, show n + (l.toArray.size - n) = l.toArray.size by omega] at this
  exact this
end

/-! ### The judgement -/

/-- From the state st the operations l come to a state of T. q: in whatever order (the world only grows). -/
def W (q : Bool) (P : Program) (ops : Array Oper) (l : List Oper) (T : St → Prop) (st : St) : Prop :=
  match q with
  | false => ∀ w0 a w (Qr : Exit → Act → World → Prop), SR w0 st a w → (∀ st' a' w', T st' → SR w0 st' a' w' → Qr .normal a' w') → wpList P ops Qr l a w
  | true => ∀ w0 a w (Kr : Act → Prop), SR w0 st a w → (∀ st' a', T st' → SR w0 st' a' w → Kr a') → wpQuiet P ops (Ext w) Kr l a

theorem W.nil {q : Bool} {P : Program} {ops : Array Oper} {T : St → Prop} {st : St} (h : T st) : W q P ops [] T st := by
  cases q
  · exact fun w0 a w Qr hs hT => hT st a w h hs
  · exact fun w0 a w Kr hs hT => hT st a h hs

/-- Operations that look at their operands alone. -/
def pureB : Op → Bool
  | .move _ | .assign _ | .binOp .. | .unOp .. | .slice .. | .indexAddr .. | .fieldAddr .. | .extract .. | .nilCheck _ | .index .. | .field .. | .pick .. => true
  | _ => false
/-- An operation that yields a value, whatever has been laid besides, and leaves the world. -/
def ReadOp (P : Program) (op : Op) (ty : TypeId) (st : St) (m : MV) : Prop :=
  ∀ w0 a w L cp sz ln, SRL w0 st a w L cp sz ln → ∃ v, MR st.nk w.heap (stab w0 st.rows st.x L w.heap) L cp sz ln m v ∧
    ∀ (o : Oper) w', o.op = op → o.type = ty → (pureB op = true ∨ Ext w w') → (execOp a.eval o).run P w' = .ok (.value v) w'

theorem wanted_none (d : Option Tmp) (op : Op) (ty : TypeId) (pos : String) (aft : Array Edge) (y : Nat → Option Bool) : Region.wanted ⟨d, op, ty, pos, aft, none⟩ y = true := rfl

theorem W.read {q : Bool} {P : Program} {ops : Array Oper} {rest : List Oper} {T : St → Prop} {st : St} {d : Nat} {op : Op} {ty : TypeId} {pos : String} {aft : Array Edge} {m : MV}
    (h : ReadOp P op ty st m) (hd : Nat.blt d st.n = true) (k : W q P ops rest T (st.put d m)) : W q P ops (⟨some d, op, ty, pos, aft, none⟩ :: rest) T st := by
  have hd' : d < st.n := by simpa [Nat.blt_eq] using hd
  cases q
  · intro w0 a w Qr hs hT
    obtain ⟨L, cp, sz, ln, s⟩ := hs
    obtain ⟨v, hv, hrun⟩ := h w0 a w L cp sz ln s
    simp only [wpList, wanted_none, if_true]
    refine .inl ?_
    have hr := hrun ⟨some d, op, ty, pos, aft, none⟩ w rfl rfl (.inr (Ext.refl w))
    simp only [Oper.wp, hr, Oper.upon]
    exact k w0 _ w Qr (SR.put s hd' hv) hT
  · intro w0 a w Kr hs hT
    obtain ⟨L, cp, sz, ln, s⟩ := hs
    obtain ⟨v, hv, hrun⟩ := h w0 a w L cp sz ln s
    simp only [wpQuiet, wanted_none, if_true]
    refine ⟨v, fun w' hw' => ?_, k w0 _ w Kr (SR.put s hd' hv) hT⟩
    have hr := hrun ⟨some d, op, ty, pos, aft, none⟩ w' rfl rfl (.inr hw')
    unfold Oper.quietAt
    rw [hr]
    exact ⟨rfl, rfl⟩

/-! ### Guards -/

theorem wanted_some (d : Option Tmp) (op : Op) (ty : TypeId) (pos : String) (aft : Array Edge) (j : Nat) (b : Bool) (y : Nat → Option Bool) :
    Region.wanted ⟨d, op, ty, pos, aft, some (j, b)⟩ y = (y j == some b) := rfl

theorem SRL.yields {w0 : Bs} {st : St} {a : Act} {w : World} {L cp sz ln : Nat → Nat} (s : SRL w0 st a w L cp sz ln) {ops : Array Oper} {j g : Nat} (hj : (ops[j]?).bind (·.dst) = some g) (hg : Nat.blt g st.n = true)
    {b : Bool} (hb : st.get g = .p (.bool b)) : yielded ops a.tmps j = some b := by
  have hm := s.tmps g
  rw [hb] at hm
  have hlt : g < a.tmps.size := by rw [s.size]; simpa [Nat.blt_eq] using hg
  have hv : a.tmps[g]? = some (.bool b) := by
    have h1 : a.tmps.getD g Go.undef = .bool b := by
      generalize a.tmps.getD g Go.undef = v at hm
      cases hm; rfl
    simp [hlt] at h1
    simp [hlt, h1]
  simp [Go.yielded, hj, hv]

theorem SRL.yields_undef {w0 : Bs} {st : St} {a : Act} {w : World} {L cp sz ln : Nat → Nat} (s : SRL w0 st a w L cp sz ln) {ops : Array Oper} {j g : Nat} (hj : (ops[j]?).bind (·.dst) = some g) (hg : Nat.blt g st.n = true)
    (hb : st.get g = .undef) : Go.yielded ops a.tmps j = none := by
  have hm := s.tmps g
  rw [hb] at hm
  have hlt : g < a.tmps.size := by rw [s.size]; simpa [Nat.blt_eq] using hg
  have hv : a.tmps[g]? = some Go.undef := by
    have h1 : a.tmps.getD g Go.undef = Go.undef := hm
    simp [hlt] at h1
    simp [hlt, h1]
  simp [Go.yielded, hj, hv, Go.undef]

section
variable {q : Bool} {P : Program} {ops : Array Oper} {rest : List Oper} {T : St → Prop} {st : St} {d : Option Tmp} {op : Op} {ty : TypeId} {pos : String} {aft : Array Edge} {j g : Nat} {b : Bool}

/-- The guard says yes. -/
theorem W.yes {want : Bool} (hj : (ops[j]?).bind (·.dst) = some g) (hg : Nat.blt g st.n = true) (hb : st.get g = .p (.bool want))
    (k : W q P ops (⟨d, op, ty, pos, aft, none⟩ :: rest) T st) : W q P ops (⟨d, op, ty, pos, aft, some (j, want)⟩ :: rest) T st := by
  cases q
  · intro w0 a w Qr hs hT
    have hk := k w0 a w Qr hs hT
    obtain ⟨L, cp, sz, ln, s⟩ := hs
    have hy := s.yields hj hg hb
    simp only [wpList, wanted_none, wanted_some, hy, beq_self_eq_true, if_true] at hk ⊢
    exact hk
  · intro w0 a w Kr hs hT
    have hk := k w0 a w Kr hs hT
    obtain ⟨L, cp, sz, ln, s⟩ := hs
    have hy := s.yields hj hg hb
    simp only [wpQuiet, wanted_none, wanted_some, hy, beq_self_eq_true, if_true] at hk ⊢
    exact hk

theorem W.skip_core {want : Bool} {dd : Nat} (hd : Nat.blt dd st.n = true) (hno : ∀ w0 a w L cp sz ln, SRL w0 st a w L cp sz ln → (Go.yielded ops a.tmps j == some want) = false)
    (k : W q P ops rest T (st.put dd .undef)) : W q P ops (⟨some dd, op, ty, pos, aft, some (j, want)⟩ :: rest) T st := by
  have hd' : dd < st.n := by simpa [Nat.blt_eq] using hd
  cases q
  · intro w0 a w Qr hs hT
    obtain ⟨L, cp, sz, ln, s⟩ := hs
    have hy := hno w0 a w L cp sz ln s
    simp only [wpList, wanted_some, hy, Bool.false_eq_true, if_false]
    exact k w0 _ w Qr (SR.put s hd' (m := .undef) (v := Go.undef) rfl) hT
  · intro w0 a w Kr hs hT
    obtain ⟨L, cp, sz, ln, s⟩ := hs
    have hy := hno w0 a w L cp sz ln s
    simp only [wpQuiet, wanted_some, hy, Bool.false_eq_true, if_false]
    exact k w0 _ w Kr (SR.put s hd' (m := .undef) (v := Go.undef) rfl) hT

/-- The guard says no. -/
theorem W.no {want : Bool} {dd : Nat} (hj : (ops[j]?).bind (·.dst) = some g) (hg : Nat.blt g st.n = true) (hb : st.get g = .p (.bool (!want))) (hd : Nat.blt dd st.n = true)
    (k : W q P ops rest T (st.put dd .undef)) : W q P ops (⟨some dd, op, ty, pos, aft, some (j, want)⟩ :: rest) T st :=
  W.skip_core hd (fun w0 a w L cp sz ln s => by rw [s.yields hj hg hb]; cases want <;> rfl) k

/-- What the guard waits for was not carried out. -/
theorem W.never {want : Bool} {dd : Nat} (hj : (ops[j]?).bind (·.dst) = some g) (hg : Nat.blt g st.n = true) (hb : st.get g = .undef) (hd : Nat.blt dd st.n = true)
    (k : W q P ops rest T (st.put dd .undef)) : W q P ops (⟨some dd, op, ty, pos, aft, some (j, want)⟩ :: rest) T st :=
  W.skip_core hd (fun w0 a w L cp sz ln s => by rw [s.yields_undef hj hg hb]; rfl) k

theorem SR.put_same {w0 : Bs} {a : Act} {w : World} {m : MV} (h : st.get g = m) (s : SR w0 st a w) : SR w0 (st.put g m) a w := by
  obtain ⟨L, cp, sz, ln, s⟩ := s
  refine ⟨L, cp, sz, ln, s.defers, s.size, fun t => ?_, s.rows, s.inj, s.keys, s.below, s.pos, s.pin, s.frag⟩
  rw [get_put]
  by_cases hgt : g = t
  · subst hgt; rw [if_pos rfl, ← h]; exact s.tmps g
  · rw [if_neg hgt]; exact s.tmps t

theorem W.weak_put {l : List Oper} {m : MV} (h : st.get g = m) (k : W q P ops l T (st.put g m)) : W q P ops l T st := by
  cases q
  · exact fun w0 a w Qr hs hT => k w0 a w Qr (SR.put_same h hs) hT
  · exact fun w0 a w Kr hs hT => k w0 a w Kr (SR.put_same h hs) hT

theorem W.askY {want : Bool} {dd : Nat} (hj : (ops[j]?).bind (·.dst) = some g) (hg : Nat.blt g st.n = true) (hb : st.get g = .p (.bool b)) (hw : b = want)
    (k1 : W q P ops (⟨some dd, op, ty, pos, aft, none⟩ :: rest) T (st.put g (.p (.bool want)))) : W q P ops (⟨some dd, op, ty, pos, aft, some (j, want)⟩ :: rest) T st := by
  have hg' : ∀ m, (st.put g m).get g = m := fun m => by rw [get_put, if_pos rfl]
  exact W.weak_put (by rw [hb, hw]) (W.yes hj hg (hg' _) k1)
theorem W.askN {want : Bool} {dd : Nat} (hj : (ops[j]?).bind (·.dst) = some g) (hg : Nat.blt g st.n = true) (hb : st.get g = .p (.bool b)) (hd : Nat.blt dd st.n = true) (hw : b = (!want))
    (k2 : W q P ops rest T ((st.put g (.p (.bool (!want)))).put dd .undef)) : W q P ops (⟨some dd, op, ty, pos, aft, some (j, want)⟩ :: rest) T st := by
  have hg' : ∀ m, (st.put g m).get g = m := fun m => by rw [get_put, if_pos rfl]
  exact W.weak_put (by rw [hb, hw]) (W.no hj hg (hg' _) hd k2)

/-- The guard is a test: two ways. -/
theorem W.ask {want : Bool} {dd : Nat} (hj : (ops[j]?).bind (·.dst) = some g) (hg : Nat.blt g st.n = true) (hb : st.get g = .p (.bool b)) (hd : Nat.blt dd st.n = true)
    (k1 : b = want → W q P ops (⟨some dd, op, ty, pos, aft, none⟩ :: rest) T (st.put g (.p (.bool want))))
    (k2 : b = (!want) → W q P ops rest T ((st.put g (.p (.bool (!want)))).put dd .undef)) : W q P ops (⟨some dd, op, ty, pos, aft, some (j, want)⟩ :: rest) T st := by
  have hg' : ∀ m, (st.put g m).get g = m := fun m => by rw [get_put, if_pos rfl]
  by_cases h : b = want
  · exact W.weak_put (by rw [hb, h]) (W.yes hj hg (hg' _) (k1 h))
  · have h' : b = (!want) := by cases b <;> cases want <;> simp_all
    exact W.weak_put (by rw [hb, h']) (W.no hj hg (hg' _) hd (k2 h'))
end

end Go.Lo
namespace Go.Lo
open Go.RowKit

/-! ### Types, as a table -/
structure TyI where
  sz : Nat
  bytes : Nat
  agg : Bool
  fs : List (Nat × Nat)
  el : Option (Nat × Nat)
  len : Nat
  ik : Option IntKind
  str : Bool
  zero : List PV

def cellPV : Value → Option PV
  | .int k n => some (.int k n)
  | .bool b => some (.bool b)
  | .string s => some (.str s)
  | .slice none 0 0 => some .nil
  | _ => none

def cellsPV : List Value → Option (List PV)
  | [] => some []
  | v :: vs => match cellPV v, cellsPV vs with
    | some x, some xs => some (x :: xs)
    | _, _ => none

def szOf (P : Program) (t : TypeId) : Nat := ((P.info? t).map (·.size)).getD 0

def tyOf (P : Program) (t : TypeId) : Option TyI :=
  match P.info? t, P.underlying t with
  | some i, some d => some {
      sz := i.size, bytes := i.bytes
      agg := match d with | .struct _ | .array _ _ => true | _ => false
      fs := match d with | .struct fs => fs.toList.map fun f => (f.offset, szOf P f.type) | _ => []
      el := match d with | .slice e => some (e, szOf P e) | .array _ e => some (e, szOf P e) | _ => none
      len := match d with | .array n _ => n | _ => 0
      ik := match d with | .int k => some k | _ => none
      str := match d with | .string => true | _ => false
      zero := ((i.zero).bind fun v => cellsPV v.cells.toList).getD [] }
  | _, _ => none

inductive Tr where
  | lf
  | nd (l : Tr) (k : Nat) (i : TyI) (r : Tr)
def Tr.get : Tr → Nat → Option TyI
  | .lf, _ => none
  | .nd l k i r, t => bif Nat.blt t k then l.get t else bif Nat.blt k t then r.get t else some i
def Tr.keys : Tr → List (Nat × TyI)
  | .lf => []
  | .nd l k i r => l.keys ++ (k, i) :: r.keys

structure Tab (P : Program) where
  l : Tr
  ok : ∀ t i, l.get t = some i → tyOf P t = some i

theorem Tr.mem : ∀ (x : Tr) (t : Nat) (i : TyI), x.get t = some i → (t, i) ∈ x.keys
  | .lf, t, i, h => by cases h
  | .nd l k j r, t, i, h => by
    simp only [Tr.get] at h
    simp only [Tr.keys, List.mem_append, List.mem_cons]
    cases h1 : Nat.blt t k with
    | true => rw [h1] at h; exact .inl (Tr.mem l t i h)
    | false =>
      rw [h1] at h
      cases h2 : Nat.blt k t with
      | true => rw [h2] at h; exact .inr (.inr (Tr.mem r t i h))
      | false =>
        rw [h2] at h
        have a1 : ¬ t < k := fun hc => by
          have hh : Nat.blt t k = true := by simp [Nat.blt_eq, hc]
          rw [hh] at h1; cases h1
        have a2 : ¬ k < t := fun hc => by
          have hh : Nat.blt k t = true := by simp [Nat.blt_eq, hc]
          rw [hh] at h2; cases h2
        have : t = k := by omega
        subst this
        cases h
        exact .inr (.inl rfl)

theorem tab_of {P : Program} (x : Tr) (h : (x.keys.map fun p => tyOf P p.1) = (x.keys.map fun p => some p.2)) (t : Nat) (i : TyI) (hi : x.get t = some i) : tyOf P t = some i := by
  have hm := x.mem t i hi
  generalize x.keys = l at *
  induction l with
  | nil => cases hm
  | cons p l ih =>
    simp only [List.map_cons, List.cons.injEq] at h
    cases hm with
    | head => exact h.1
    | tail _ hm => exact ih h.2 hm

theorem Tab.ty {P : Program} (tt : Tab P) {t : Nat} {i : TyI} (h : tt.l.get t = some i) : tyOf P t = some i := tt.ok t i h

theorem ty_parts {P : Program} {t : Nat} {i : TyI} (h : tyOf P t = some i) : ∃ inf d, P.info? t = some inf ∧ P.underlying t = some d ∧ inf.size = i.sz ∧ inf.bytes = i.bytes ∧
    i.agg = (match d with | .struct _ | .array _ _ => true | _ => false) ∧ i.fs = (match d with | .struct fs => fs.toList.map fun f => (f.offset, szOf P f.type) | _ => []) ∧
    i.el = (match d with | .slice e => some (e, szOf P e) | .array _ e => some (e, szOf P e) | _ => none) ∧ i.len = (match d with | .array n _ => n | _ => 0) ∧
    i.ik = (match d with | .int k => some k | _ => none) ∧ i.str = (match d with | .string => true | _ => false) ∧ i.zero = ((inf.zero).bind fun v => cellsPV v.cells.toList).getD [] := by
  unfold tyOf at h
  split at h
  · rename_i inf d h1 h2
    cases h
    exact ⟨inf, d, h1, h2, rfl, rfl, rfl, rfl, rfl, rfl, rfl, rfl, rfl⟩
  · cases h

theorem Tab.slice {P : Program} (tt : Tab P) {t e z : Nat} {i : TyI} (h : tt.l.get t = some i) (he : i.el = some (e, z)) (ha : i.agg = false) : P.underlying t = some (.slice e) ∧ szOf P e = z := by
  obtain ⟨inf, d, h1, h2, _, _, h5, _, h7, _⟩ := ty_parts (tt.ty h)
  rw [ha] at h5; rw [he] at h7
  rw [h2]
  cases d <;> first | (cases h5; done) | (cases h7; exact ⟨rfl, rfl⟩) | cases h7
theorem Tab.string {P : Program} (tt : Tab P) {t : Nat} {i : TyI} (h : tt.l.get t = some i) (he : i.str = true) : P.underlying t = some .string := by
  obtain ⟨inf, d, h1, h2, _, _, _, _, _, _, _, h10, _⟩ := ty_parts (tt.ty h)
  rw [he] at h10
  rw [h2]
  cases d <;> first | rfl | cases h10
theorem Tab.int {P : Program} (tt : Tab P) {t : Nat} {i : TyI} {k : IntKind} (h : tt.l.get t = some i) (he : i.ik = some k) : P.underlying t = some (.int k) := by
  obtain ⟨inf, d, h1, h2, _, _, _, _, _, _, h9, _⟩ := ty_parts (tt.ty h)
  rw [he] at h9
  rw [h2]
  cases d <;> first | (cases h9; rfl) | cases h9
theorem Tab.any {P : Program} (tt : Tab P) {t : Nat} {i : TyI} (h : tt.l.get t = some i) : (P.underlying t).isSome = true := by
  obtain ⟨inf, d, h1, h2, _⟩ := ty_parts (tt.ty h)
  rw [h2]; rfl
theorem Tab.info {P : Program} (tt : Tab P) {t : Nat} {i : TyI} (h : tt.l.get t = some i) : ∃ inf, P.info? t = some inf ∧ inf.size = i.sz ∧ inf.bytes = i.bytes ∧ i.zero = ((inf.zero).bind fun v => cellsPV v.cells.toList).getD [] := by
  obtain ⟨inf, d, h1, h2, h3, h4, h5, h6, h7, h8, h9, h10, h11⟩ := ty_parts (tt.ty h)
  exact ⟨inf, h1, h3, h4, h11⟩
theorem szOf_info {P : Program} {e : Nat} {inf : TypeInfo} (h : P.info? e = some inf) : szOf P e = inf.size := by simp [szOf, h]
theorem run_sizeOf {P : Program} {e : Nat} {inf : TypeInfo} (h : P.info? e = some inf) (w : World) : (sizeOf e).run P w = .ok inf.size w := by
  simp [sizeOf, typeInfo, program, Sem.run, h]
theorem Tab.field {P : Program} (tt : Tab P) {t f off z : Nat} {i : TyI} (h : tt.l.get t = some i) (hf : i.fs[f]? = some (off, z)) :
    ∃ fs fld, P.underlying t = some (.struct fs) ∧ fs[f]? = some fld ∧ fld.offset = off ∧ szOf P fld.type = z := by
  obtain ⟨inf, d, h1, h2, h3, h4, h5, h6, h7⟩ := ty_parts (tt.ty h)
  rw [h6] at hf
  clear h3 h4 h5 h6 h7
  cases d <;> simp at hf
  rename_i fs
  obtain ⟨fld, hfld, he1, he2⟩ := hf
  exact ⟨fs, fld, h2, by simpa using hfld, he1, he2⟩
theorem Tab.isAgg {P : Program} (tt : Tab P) {t : Nat} {i : TyI} (h : tt.l.get t = some i) (w : World) : (Go.isAgg t).run P w = .ok i.agg w := by
  obtain ⟨inf, d, h1, h2, _, _, h5, _⟩ := ty_parts (tt.ty h)
  rw [h5]
  simp only [Go.isAgg, Go.underlying, program, Sem.run, Sem.run_bind, Result.andThen_ok, h2]
  cases d <;> rfl

/-! ### Operands -/
def ofConst : Value → MV
  | .int k n => .p (.int k n)
  | .bool b => .p (.bool b)
  | .string s => .p (.str s)
  | .slice none 0 0 => .p .nil
  | _ => .p .any

def St.ev (st : St) : Operand → MV
  | .tmp t => st.get t
  | .const v => ofConst v
  | .func f => .p (.clo f [])
  | _ => .p .any

theorem MR_const (nk : Nat) (h : Array Obj) (S : Nat → Prop) (L cp sz ln : Nat → Nat) (v : Value) : MR nk h S L cp sz ln (ofConst v) v := by
  unfold ofConst
  split
  · exact VR.int
  · exact VR.bool
  · exact VR.str
  · exact VR.nil
  · exact VR.any

variable {P : Program} {st : St}

section
variable {w0 : Bs} {a : Act} {w : World} {L cp sz ln : Nat → Nat}

theorem SRL.ev (s : SRL w0 st a w L cp sz ln) (x : Operand) : MR st.nk w.heap (stab w0 st.rows st.x L w.heap) L cp sz ln (st.ev x) (a.eval x) := by
  cases x with
  | tmp t => exact s.tmps t
  | const v => exact MR_const _ _ _ _ _ _ _ v
  | global g => exact VR.any
  | func f => exact VR.clo rfl (fun i c u hc => by cases hc)

theorem SRL.ev_int (s : SRL w0 st a w L cp sz ln) {x : Operand} {k : IntKind} {n : Int} (h : st.ev x = .p (.int k n)) : a.eval x = .int k n := by
  have hm := s.ev x; rw [h] at hm
  generalize a.eval x = v at *; cases hm; rfl
theorem SRL.ev_bool (s : SRL w0 st a w L cp sz ln) {x : Operand} {b : Bool} (h : st.ev x = .p (.bool b)) : a.eval x = .bool b := by
  have hm := s.ev x; rw [h] at hm
  generalize a.eval x = v at *; cases hm; rfl
theorem SRL.ev_str (s : SRL w0 st a w L cp sz ln) {x : Operand} {b : ByteArray} (h : st.ev x = .p (.str b)) : a.eval x = .string b := by
  have hm := s.ev x; rw [h] at hm
  generalize a.eval x = v at *; cases hm; rfl
theorem SRL.ev_p (s : SRL w0 st a w L cp sz ln) {x : Operand} {m : PV} (h : st.ev x = .p m) : VR w.heap (stab w0 st.rows st.x L w.heap) m (a.eval x) := by
  have hm := s.ev x; rw [h] at hm; exact hm
theorem SRL.ev_val (s : SRL w0 st a w L cp sz ln) {x : Operand} {m : PV} {v : Value} (h : st.ev x = .p m) (hv : m.val = some v) : a.eval x = v := (s.ev_p h).of_val hv
end

theorem rd_move {x : Operand} {ty : TypeId} : ReadOp P (.move x) ty st (st.ev x) := fun w0 a w L cp sz ln s =>
  ⟨_, s.ev x, fun o w' ho _ _ => by simp [execOp, ho]⟩
theorem rd_assign {x : Operand} {ty : TypeId} : ReadOp P (.assign x) ty st (st.ev x) := fun w0 a w L cp sz ln s =>
  ⟨_, s.ev x, fun o w' ho _ _ => by simp [execOp, ho]⟩

theorem rd_pick_t {c x y : Operand} {ty : TypeId} (h : st.ev c = .p (.bool true)) : ReadOp P (.pick c x y) ty st (st.ev x) := fun w0 a w L cp sz ln s =>
  ⟨_, s.ev x, fun o w' ho _ _ => by simp [execOp, ho, s.ev_bool h, asBool]⟩
theorem rd_pick_f {c x y : Operand} {ty : TypeId} (h : st.ev c = .p (.bool false)) : ReadOp P (.pick c x y) ty st (st.ev y) := fun w0 a w L cp sz ln s =>
  ⟨_, s.ev y, fun o w' ho _ _ => by simp [execOp, ho, s.ev_bool h, asBool]⟩

/- The same, the value's head told. -/
theorem rd_mv {x : Operand} {ty : TypeId} {m : MV} (h : st.ev x = m) : ReadOp P (.move x) ty st m := h ▸ rd_move
theorem rd_as {x : Operand} {ty : TypeId} {m : MV} (h : st.ev x = m) : ReadOp P (.assign x) ty st m := h ▸ rd_assign
theorem rd_mv_p {x : Operand} {ty : TypeId} {m : PV} (h : st.ev x = .p m) : ReadOp P (.move x) ty st (.p m) := h ▸ rd_move
theorem rd_as_p {x : Operand} {ty : TypeId} {m : PV} (h : st.ev x = .p m) : ReadOp P (.assign x) ty st (.p m) := h ▸ rd_assign
theorem rd_mv_o {x : Operand} {ty k : Nat} (h : st.ev x = .own k) : ReadOp P (.move x) ty st (.own k) := h ▸ rd_move
theorem rd_as_o {x : Operand} {ty k : Nat} (h : st.ev x = .own k) : ReadOp P (.assign x) ty st (.own k) := h ▸ rd_assign
theorem rd_mv_l {x : Operand} {ty k i j : Nat} (h : st.ev x = .loc k i j) : ReadOp P (.move x) ty st (.loc k i j) := h ▸ rd_move
theorem rd_as_l {x : Operand} {ty k i j : Nat} (h : st.ev x = .loc k i j) : ReadOp P (.assign x) ty st (.loc k i j) := h ▸ rd_assign
theorem rd_mv_t {x : Operand} {ty : Nat} {xs : List MV} (h : st.ev x = .tup xs) : ReadOp P (.move x) ty st (.tup xs) := h ▸ rd_move
theorem rd_pk_t {c x y : Operand} {ty : TypeId} {m : PV} (h : st.ev c = .p (.bool true)) (hx : st.ev x = .p m) : ReadOp P (.pick c x y) ty st (.p m) := hx ▸ rd_pick_t h
theorem rd_pk_f {c x y : Operand} {ty : TypeId} {m : PV} (h : st.ev c = .p (.bool false)) (hx : st.ev y = .p m) : ReadOp P (.pick c x y) ty st (.p m) := hx ▸ rd_pick_f h
theorem rd_pk_b {c x y : Operand} {ty : TypeId} {b p q : Bool} (h : st.ev c = .p (.bool b)) (hx : st.ev x = .p (.bool p)) (hy : st.ev y = .p (.bool q)) : ReadOp P (.pick c x y) ty st (.p (.bool (bif b then p else q))) := by
  cases b
  · exact rd_pk_f h hy
  · exact rd_pk_t h hx

/-! ### Integers -/
@[irreducible] def ltB (x y : Int) : Bool := decide (x < y)
@[irreducible] def eqB (x y : Int) : Bool := x == y
theorem ltB_t {x y : Int} : ltB x y = true ↔ x < y := by unfold ltB; simp
theorem ltB_f {x y : Int} : ltB x y = false ↔ y ≤ x := by unfold ltB; simp
theorem eqB_t {x y : Int} : eqB x y = true ↔ x = y := by unfold eqB; simp
theorem eqB_f {x y : Int} : eqB x y = false ↔ x ≠ y := by unfold eqB; simp

section ints
variable {x y : Operand} {k : IntKind} {m n : Int} {ty t t' : TypeId}

theorem bin_int {op : BinOp} {r : PV} {v : Value} (hx : st.ev x = .p (.int k m)) (hy : st.ev y = .p (.int k n)) (hr : r.val = some v) (hV : ∀ h S, VR h S r v)
    (hrun : ∀ w', (binOp op t (.int k m) (.int k n)).run P w' = .ok v w') : ReadOp P (.binOp op t x y t') ty st (.p r) := fun w0 a w L cp sz ln s => by
  refine ⟨v, hV _ _, fun o w' ho _ _ => ?_⟩
  have hg : (eqGuard op t x y (.int k m) (.int k n)).run P w' = .ok () w' := by
    unfold eqGuard; split <;> simp
  simp [execOp, ho, s.ev_int hx, s.ev_int hy, hg, hrun]

theorem rd_lss (hx : st.ev x = .p (.int k m)) (hy : st.ev y = .p (.int k n)) : ReadOp P (.binOp .lss t x y t') ty st (.p (.bool (ltB m n))) :=
  bin_int hx hy rfl (fun _ _ => .bool) fun w' => by unfold ltB; simp [binOp, Op.intCmp]
theorem rd_gtr (hx : st.ev x = .p (.int k m)) (hy : st.ev y = .p (.int k n)) : ReadOp P (.binOp .gtr t x y t') ty st (.p (.bool (ltB n m))) :=
  bin_int hx hy rfl (fun _ _ => .bool) fun w' => by unfold ltB; simp [binOp, Op.intCmp]
theorem rd_leq (hx : st.ev x = .p (.int k m)) (hy : st.ev y = .p (.int k n)) : ReadOp P (.binOp .leq t x y t') ty st (.p (.bool (!ltB n m))) :=
  bin_int hx hy rfl (fun _ _ => .bool) fun w' => by
    unfold ltB; simp [binOp, Op.intCmp]; rw [Bool.eq_iff_iff]; simp
theorem rd_geq (hx : st.ev x = .p (.int k m)) (hy : st.ev y = .p (.int k n)) : ReadOp P (.binOp .geq t x y t') ty st (.p (.bool (!ltB m n))) :=
  bin_int hx hy rfl (fun _ _ => .bool) fun w' => by
    unfold ltB; simp [binOp, Op.intCmp]; rw [Bool.eq_iff_iff]; simp
theorem rd_eql (hx : st.ev x = .p (.int k m)) (hy : st.ev y = .p (.int k n)) : ReadOp P (.binOp .eql t x y t') ty st (.p (.bool (eqB m n))) :=
  bin_int hx hy rfl (fun _ _ => .bool) fun w' => by unfold eqB; simp [binOp, Op.intCmp]
theorem rd_neq (hx : st.ev x = .p (.int k m)) (hy : st.ev y = .p (.int k n)) : ReadOp P (.binOp .neq t x y t') ty st (.p (.bool (!eqB m n))) :=
  bin_int hx hy rfl (fun _ _ => .bool) fun w' => by
    unfold eqB; simp [binOp, Op.intCmp, bne]

/-- Whether a number is an int64. -/
def in64 (n : Int) : Prop := -9223372036854775808 ≤ n ∧ n ≤ 9223372036854775807

theorem wrap_in64 {n : Int} (h : in64 n) : IntKind.i64.wrap n = n := IntWalk.i64_in n h

theorem rd_add (hx : st.ev x = .p (.int .i64 m)) (hy : st.ev y = .p (.int .i64 n)) (h : in64 (m + n)) : ReadOp P (.binOp .add t x y t') ty st (.p (.int .i64 (m + n))) :=
  bin_int hx hy rfl (fun _ _ => .int) fun w' => by simp [binOp, Op.intArith, wrap_in64 h]
theorem rd_sub (hx : st.ev x = .p (.int .i64 m)) (hy : st.ev y = .p (.int .i64 n)) (h : in64 (m - n)) : ReadOp P (.binOp .sub t x y t') ty st (.p (.int .i64 (m - n))) :=
  bin_int hx hy rfl (fun _ _ => .int) fun w' => by simp [binOp, Op.intArith, wrap_in64 h]
theorem rd_mul (hx : st.ev x = .p (.int .i64 m)) (hy : st.ev y = .p (.int .i64 n)) (h : in64 (m * n)) : ReadOp P (.binOp .mul t x y t') ty st (.p (.int .i64 (m * n))) :=
  bin_int hx hy rfl (fun _ _ => .int) fun w' => by simp [binOp, Op.intArith, wrap_in64 h]
theorem rd_quo (hx : st.ev x = .p (.int .i64 m)) (hy : st.ev y = .p (.int .i64 n)) (h0 : n ≠ 0) (h : in64 (m.tdiv n)) : ReadOp P (.binOp .quo t x y t') ty st (.p (.int .i64 (m.tdiv n))) :=
  bin_int hx hy rfl (fun _ _ => .int) fun w' => by simp [binOp, Op.intDiv, wrap_in64 h, h0]
theorem rd_rem (hx : st.ev x = .p (.int k m)) (hy : st.ev y = .p (.int k n)) (h0 : n ≠ 0) : ReadOp P (.binOp .rem t x y t') ty st (.p (.int k (m.tmod n))) :=
  bin_int hx hy rfl (fun _ _ => .int) fun w' => by simp [binOp, Op.intDiv, h0]
theorem rd_neg (hx : st.ev x = .p (.int .i64 m)) (h : in64 (-m)) : ReadOp P (.unOp .neg t x) ty st (.p (.int .i64 (-m))) := fun w0 a w L cp sz ln s => by
  refine ⟨.int .i64 (-m), VR.int, fun o w' ho _ _ => ?_⟩
  simp [execOp, ho, s.ev_int hx, Op.unary, Op.intArith, wrap_in64 h]
theorem rd_not {b : Bool} (hx : st.ev x = .p (.bool b)) : ReadOp P (.unOp .not t x) ty st (.p (.bool (!b))) := fun w0 a w L cp sz ln s => by
  refine ⟨.bool (!b), VR.bool, fun o w' ho _ _ => ?_⟩
  simp [execOp, ho, s.ev_bool hx, Op.unary]
theorem rd_conv {k' : IntKind} (tt : Tab P) {i i' : TyI} (hs0 : tt.l.get t = some i) (hd0 : tt.l.get t' = some i') (hk : i'.ik = some k') (hx : st.ev x = .p (.int k m)) (h : k'.wrap m = m) :
    ReadOp P (.convert t t' x) ty st (.p (.int k' m)) := fun w0 a w L cp sz ln s => by
  refine ⟨.int k' m, VR.int, fun o w' ho _ _ => ?_⟩
  obtain ⟨d, hd'⟩ := Option.isSome_iff_exists.1 (tt.any hs0)
  have hd := tt.int hd0 hk
  simp [execOp, ho, s.ev_int hx, convert, underlying, program, Sem.run, hd', hd, Conv.intToInt, h]
end ints

/-! ### Strings -/
@[irreducible] def sEq (x y : ByteArray) : Bool := x.toList == y.toList
@[irreducible] def sLt (x y : ByteArray) : Bool := Op.bytesLess x.toList y.toList

section strs
variable {x y : Operand} {m n : ByteArray} {ty t t' : TypeId}

theorem bin_str {op : BinOp} {b : Bool} (hx : st.ev x = .p (.str m)) (hy : st.ev y = .p (.str n))
    (hrun : ∀ w', (Op.stringOp op m n).run P w' = .ok (.bool b) w') (hop : ∀ w', (binOp op t (.string m) (.string n)).run P w' = (Op.stringOp op m n).run P w') : ReadOp P (.binOp op t x y t') ty st (.p (.bool b)) := fun w0 a w L cp sz ln s => by
  refine ⟨.bool b, VR.bool, fun o w' ho _ _ => ?_⟩
  have hg : (eqGuard op t x y (.string m) (.string n)).run P w' = .ok () w' := by
    unfold eqGuard; split <;> simp
  simp [execOp, ho, s.ev_str hx, s.ev_str hy, hg, hop, hrun]

theorem rd_seql (hx : st.ev x = .p (.str m)) (hy : st.ev y = .p (.str n)) : ReadOp P (.binOp .eql t x y t') ty st (.p (.bool (sEq m n))) :=
  bin_str hx hy (fun w' => by unfold sEq; simp [Op.stringOp]) fun w' => by simp [binOp]
theorem rd_sneq (hx : st.ev x = .p (.str m)) (hy : st.ev y = .p (.str n)) : ReadOp P (.binOp .neq t x y t') ty st (.p (.bool (!sEq m n))) :=
  bin_str hx hy (fun w' => by unfold sEq; simp [Op.stringOp]) fun w' => by simp [binOp]
theorem rd_slss (hx : st.ev x = .p (.str m)) (hy : st.ev y = .p (.str n)) : ReadOp P (.binOp .lss t x y t') ty st (.p (.bool (sLt m n))) :=
  bin_str hx hy (fun w' => by unfold sLt; simp [Op.stringOp]) fun w' => by simp [binOp]
theorem rd_sgeq (hx : st.ev x = .p (.str m)) (hy : st.ev y = .p (.str n)) : ReadOp P (.binOp .geq t x y t') ty st (.p (.bool (!sLt m n))) :=
  bin_str hx hy (fun w' => by unfold sLt; simp [Op.stringOp]) fun w' => by simp [binOp]
theorem rd_sleq (hx : st.ev x = .p (.str m)) (hy : st.ev y = .p (.str n)) : ReadOp P (.binOp .leq t x y t') ty st (.p (.bool (sLt m n || sEq m n))) :=
  bin_str hx hy (fun w' => by unfold sLt sEq; simp [Op.stringOp]) fun w' => by simp [binOp]
theorem rd_sgtr (hx : st.ev x = .p (.str m)) (hy : st.ev y = .p (.str n)) : ReadOp P (.binOp .gtr t x y t') ty st (.p (.bool (!(sLt m n || sEq m n)))) :=
  bin_str hx hy (fun w' => by unfold sLt sEq; simp [Op.stringOp]) fun w' => by simp [binOp]

/-- s[i]. -/
theorem rd_sidx {k : IntKind} {i : Int} (tt : Tab P) {ti : TyI} (hT0 : tt.l.get t = some ti) (hT1 : ti.str = true) (hx : st.ev x = .p (.str m)) (hy : st.ev y = .p (.int k i)) (h0 : 0 ≤ i) {c : UInt8} (hc : m[i.toNat]? = some c) :
    ReadOp P (.index t x y) ty st (.p (.int .u8 c.toNat)) := fun w0 a w L cp sz ln s => by
  refine ⟨.int .u8 c.toNat, VR.int, fun o w' ho _ _ => ?_⟩
  have hT := tt.string hT0 hT1
  simp [execOp, ho, s.ev_str hx, s.ev_int hy, Instr.index, asIntOf, underlying, program, Sem.run, hT, h0, hc]
end strs

/-! ### Lengths -/
section
variable {x : Operand} {ty t : TypeId} {aT : Array TypeId}

theorem len_core {v : Value} {n : Nat} {ats : Array TypeId} (hrun : ∀ w', (Builtin.len_ ats ty #[v]).run P w' = .ok (.int .i64 n) w') (hx : ∀ w0 a w L cp sz ln, SRL w0 st a w L cp sz ln → a.eval x = v) :
    ReadOp P (.call { callee := .builtin .len, args := #[x], argTypes := ats }) ty st (.p (.int .i64 n)) := fun w0 a w L cp sz ln s => by
  refine ⟨.int .i64 n, VR.int, fun o w' ho hty _ => ?_⟩
  subst hty
  simp [execOp, ho, hx w0 a w L cp sz ln s, resolve, invoke, builtin, hrun]

theorem rd_len_str {s : ByteArray} (tt : Tab P) {ti : TyI} (hT0 : tt.l.get t = some ti) (hT1 : ti.str = true) (hx : st.ev x = .p (.str s)) :
    ReadOp P (.call { callee := .builtin .len, args := #[x], argTypes := #[t] }) ty st (.p (.int .i64 s.size)) :=
  len_core (fun w' => by have hT := tt.string hT0 hT1; simp [Builtin.len_, underlying, program, Sem.run, hT, goInt]) fun w0 a w L cp sz ln s => s.ev_str hx

theorem len_slice {e : TypeId} {n : Nat} (hT : P.underlying t = some (.slice e)) (hx : ∀ w0 a w L cp sz ln, SRL w0 st a w L cp sz ln → ∃ ao c, a.eval x = .slice ao n c) :
    ReadOp P (.call { callee := .builtin .len, args := #[x], argTypes := #[t] }) ty st (.p (.int .i64 n)) := fun w0 a w L cp sz ln s => by
  refine ⟨.int .i64 n, VR.int, fun o w' ho hty _ => ?_⟩
  obtain ⟨ao, c, hv⟩ := hx w0 a w L cp sz ln s
  simp [execOp, ho, hv, resolve, invoke, builtin, Builtin.len_, underlying, program, Sem.run, hT, goInt]

theorem VR.view_shape {h : Array Obj} {S : Nat → Prop} {z : Nat} {els : List (List PV)} {v : Value} (hv : VR h S (.view z els) v) : ∃ ao c, v = .slice ao els.length c := by
  cases hv with
  | view0 => exact ⟨_, _, rfl⟩
  | view U hn hc hS hsz hU hV => subst hn; exact ⟨_, _, rfl⟩

theorem rd_len_view {e ez : Nat} {z : Nat} {els : List (List PV)} (tt : Tab P) {ti : TyI} (hT0 : tt.l.get t = some ti) (hT1 : ti.el = some (e, ez)) (hT2 : ti.agg = false) (hx : st.ev x = .p (.view z els)) :
    ReadOp P (.call { callee := .builtin .len, args := #[x], argTypes := #[t] }) ty st (.p (.int .i64 els.length)) :=
  len_slice (tt.slice hT0 hT1 hT2).1 fun w0 a w L cp sz ln s => (s.ev_p hx).view_shape
theorem rd_len_nil {e ez : Nat} (tt : Tab P) {ti : TyI} (hT0 : tt.l.get t = some ti) (hT1 : ti.el = some (e, ez)) (hT2 : ti.agg = false) (hx : st.ev x = .p .nil) :
    ReadOp P (.call { callee := .builtin .len, args := #[x], argTypes := #[t] }) ty st (.p (.int .i64 0)) :=
  len_slice (n := 0) (tt.slice hT0 hT1 hT2).1 fun w0 a w L cp sz ln s => by
    have := s.ev_p hx; generalize a.eval x = v at *; cases this; exact ⟨_, _, rfl⟩
theorem rd_len_own {e ez : Nat} {k : Nat} {r : Row} (tt : Tab P) {ti : TyI} (hT0 : tt.l.get t = some ti) (hT1 : ti.el = some (e, ez)) (hT2 : ti.agg = false) (hx : st.ev x = .own k) (hr : look st.rows k = some r) :
    ReadOp P (.call { callee := .builtin .len, args := #[x], argTypes := #[t] }) ty st (.p (.int .i64 r.els.length)) :=
  len_slice (tt.slice hT0 hT1 hT2).1 fun w0 a w L cp sz ln s => by
    have := s.ev x; rw [hx] at this; rw [← (s.rows k r hr).2.2.2]; exact ⟨_, _, this.1⟩
end

end Go.Lo
namespace Go.Lo
open Go.RowKit
variable {P : Program} {st : St}

section
variable {w0 : Bs} {a : Act} {w : World} {L cp sz ln : Nat → Nat}

theorem SRL.ev_ref (s : SRL w0 st a w L cp sz ln) {x : Operand} {cs : List PV} (h : st.ev x = .p (.ref cs)) : ∃ (b off : Nat) (U : Nat → Value), a.eval x = .pointer (some ⟨b, off, none⟩) ∧ stab w0 st.rows st.x L w.heap b ∧
    (∀ (j : Nat) m, cs[j]? = some m → hcell w.heap b (off + j) = some (U j) ∧ (U j).oneCell' = true) ∧ (∀ (j : Nat) m, cs[j]? = some m → VR w.heap (stab w0 st.rows st.x L w.heap) m (U j)) := by
  have hm := s.ev_p h
  generalize a.eval x = v at *
  cases hm with
  | ref U hS hU hV => exact ⟨_, _, U, rfl, hS, hU, hV⟩

theorem Ext.cell {w w' : World} (e : Ext w w') {b : Nat} (hb : b < w.heap.size) (off : Nat) : w'.cell? ⟨b, off, none⟩ = hcell w.heap b off := by
  rw [cell?_eq, hcell_congr (e.block b hb)]

theorem SRL.ev_loc (s : SRL w0 st a w L cp sz ln) {x : Operand} {k i j : Nat} (h : st.ev x = .loc k i j) : a.eval x = .pointer (some ⟨L k, i * sz k + j, none⟩) ∧ k < st.nk := by
  have hm := s.ev x; rw [h] at hm; exact hm
theorem SRL.ev_own (s : SRL w0 st a w L cp sz ln) {x : Operand} {k : Nat} (h : st.ev x = .own k) : a.eval x = .slice (some ⟨L k, 0, none⟩) (ln k) (cp k) ∧ k < st.nk := by
  have hm := s.ev x; rw [h] at hm; exact hm

/-- A cell of a row. -/
theorem SRL.rowCell (s : SRL w0 st a w L cp sz ln) {k : Nat} {r : Row} (hr : look st.rows k = some r) {i j : Nat} {e : List PV} {m : PV} (he : r.els[i]? = some e) (hm : e[j]? = some m) :
    ∃ u, hcell w.heap (L k) (i * sz k + j) = some u ∧ u.oneCell' = true ∧ VR w.heap (stab w0 st.rows st.x L w.heap) m u := by
  obtain ⟨⟨C, h1, h2, h3, h4, h5, h6⟩, _, hsz, _⟩ := s.rows k r hr
  obtain ⟨u, hu, hone, hv⟩ := h6 i e j m he hm
  refine ⟨u, ?_, hone, hv⟩
  simp only [hcell, h1, hsz, hu]
end

/-! ### Fields -/
theorem fieldAt_run {t f off z : Nat} {i : TyI} (tt : Tab P) (h : tt.l.get t = some i) (hf : i.fs[f]? = some (off, z)) (hz : z ≠ 0) (b o : Nat) (w : World) :
    (Instr.fieldAt t (.pointer (some ⟨b, o, none⟩)) f).run P w = .ok (.pointer (some ⟨b, o + off, none⟩)) w := by
  obtain ⟨fs, fld, h1, h2, h3, h4⟩ := tt.field h hf
  have hsz : ∃ inf, P.info? fld.type = some inf ∧ inf.size = z := by
    unfold szOf at h4
    cases hi : P.info? fld.type with
    | none => rw [hi] at h4; exact absurd h4.symm hz
    | some inf => rw [hi] at h4; exact ⟨inf, rfl, h4⟩
  obtain ⟨inf, hi, hs⟩ := hsz
  have hne : ¬ inf.size = 0 := by rw [hs]; exact hz
  simp only [Instr.fieldAt, underlying, program, Sem.run, Sem.run_bind, Result.andThen_ok, h1, h2, Instr.sureAddr, fieldPlace, run_sizeOf hi, hne, if_false, add_mk, h3, Sem.run_pure]

theorem rd_field {x : Operand} {t f off z ty : Nat} {i : TyI} {cs : List PV} (tt : Tab P) (h : tt.l.get t = some i) (hf : i.fs[f]? = some (off, z)) (hz : Nat.beq z 0 = false) (hx : st.ev x = .p (.ref cs)) :
    ReadOp P (.fieldAddr t x f) ty st (.p (.ref (cs.drop off))) := fun w0 a w L cp sz ln s => by
  obtain ⟨b, o, U, hv, hS, hU, hV⟩ := s.ev_ref hx
  refine ⟨.pointer (some ⟨b, o + off, none⟩), ?_, fun op w' ho _ _ => ?_⟩
  · refine VR.ref (fun j => U (off + j)) hS (fun j m hm => ?_) (fun j m hm => ?_)
    · rw [List.getElem?_drop] at hm
      rw [Nat.add_assoc]; exact hU _ _ hm
    · rw [List.getElem?_drop] at hm
      exact hV _ _ hm
  · have hz' : z ≠ 0 := fun e => by subst e; cases hz
    simp [execOp, ho, hv, fieldAt_run tt h hf hz']

theorem rd_field_loc {x : Operand} {t f off z ty : Nat} {i : TyI} {k e j : Nat} (tt : Tab P) (h : tt.l.get t = some i) (hf : i.fs[f]? = some (off, z)) (hz : Nat.beq z 0 = false) (hx : st.ev x = .loc k e j) :
    ReadOp P (.fieldAddr t x f) ty st (.loc k e (j + off)) := fun w0 a w L cp sz ln s => by
  refine ⟨.pointer (some ⟨L k, e * sz k + (j + off), none⟩), ⟨rfl, (s.ev_loc hx).2⟩, fun op w' ho _ _ => ?_⟩
  have hz' : z ≠ 0 := fun e => by subst e; cases hz
  simp [execOp, ho, (s.ev_loc hx).1, fieldAt_run tt h hf hz', Nat.add_assoc]

theorem rd_nil {x : Operand} {ty : Nat} {cs : List PV} (hx : st.ev x = .p (.ref cs)) : ReadOp P (.nilCheck x) ty st (.p (.ref cs)) := fun w0 a w L cp sz ln s => by
  obtain ⟨b, o, U, hv, hS, hU, hV⟩ := s.ev_ref hx
  refine ⟨_, VR.ref U hS hU hV, fun op w' ho _ _ => ?_⟩
  simp [execOp, ho, hv]
theorem rd_nil_loc {x : Operand} {ty k e j : Nat} (hx : st.ev x = .loc k e j) : ReadOp P (.nilCheck x) ty st (.loc k e j) := fun w0 a w L cp sz ln s => by
  refine ⟨_, ⟨rfl, (s.ev_loc hx).2⟩, fun op w' ho _ _ => ?_⟩
  simp [execOp, ho, s.ev_loc hx]

/-! ### Loads -/
theorem loadAt_one {t : Nat} {i : TyI} (tt : Tab P) (h : tt.l.get t = some i) (ha : i.agg = false) {b o : Nat} {w : World} {u : Value} (hc : w.cell? ⟨b, o, none⟩ = some u) :
    (Instr.loadAt t (.pointer (some ⟨b, o, none⟩))).run P w = .ok u w := by
  simp only [Instr.loadAt, Instr.sureAddr, loadVar, Sem.run_bind, Sem.run_pure, Result.andThen_ok, tt.isAgg h w, ha, Bool.false_eq_true, if_false, run_load, hc]

theorem loadAt_agg {t : Nat} {i : TyI} (tt : Tab P) (h : tt.l.get t = some i) (ha : i.agg = true) {b o : Nat} {w : World} {us : List Value} (hl : us.length = i.sz) (hc : ∀ (j : Nat) u, us[j]? = some u → w.cell? ⟨b, o + j, none⟩ = some u) :
    (Instr.loadAt t (.pointer (some ⟨b, o, none⟩))).run P w = .ok (.agg us.toArray) w := by
  obtain ⟨inf, h1, h2, _⟩ := tt.info h
  have hr := run_loadCells_list (P := P) (w := w) ⟨b, o, none⟩ us (fun j v hj => by rw [add_mk]; exact hc j v hj)
  simp only [Instr.loadAt, Instr.sureAddr, loadVar, Sem.run_bind, Sem.run_pure, Result.andThen_ok, tt.isAgg h w, ha, if_true, run_sizeOf h1, h2, ← hl, hr]

theorem rd_load {x : Operand} {t ty : Nat} {i : TyI} {cs : List PV} {m : PV} (tt : Tab P) (h : tt.l.get t = some i) (ha : i.agg = false) (hx : st.ev x = .p (.ref cs)) (hm : cs[0]? = some m) :
    ReadOp P (.load t x) ty st (.p m) := fun w0 a w L cp sz ln s => by
  obtain ⟨b, o, U, hv, hS, hU, hV⟩ := s.ev_ref hx
  refine ⟨U 0, hV 0 m hm, fun op w' ho _ e => ?_⟩
  have hc : w'.cell? ⟨b, o, none⟩ = some (U 0) := by rw [(e.resolve_left (by simp [pureB])).cell hS.1]; exact (hU 0 m hm).1
  simp [execOp, ho, hv, loadAt_one tt h ha hc]

theorem rd_load_agg {x : Operand} {t ty : Nat} {i : TyI} {cs : List PV} (tt : Tab P) (h : tt.l.get t = some i) (ha : i.agg = true) (hx : st.ev x = .p (.ref cs)) (hl : (cs.take i.sz).length = i.sz) :
    ReadOp P (.load t x) ty st (.p (.agg (cs.take i.sz))) := fun w0 a w L cp sz ln s => by
  obtain ⟨b, o, U, hv, hS, hU, hV⟩ := s.ev_ref hx
  have hget : ∀ (j : Nat), j < i.sz → ∃ m, cs[j]? = some m := fun j hj => by
    have : j < (cs.take i.sz).length := by rw [hl]; exact hj
    have h2 : j < cs.length := by simp at this; omega
    exact ⟨cs[j], by simp [h2]⟩
  refine ⟨.agg ((List.range i.sz).map U).toArray, VR.agg (by simpa using hl) (fun j c u hc hu => ?_), fun op w' ho _ e => ?_⟩
  · have hj : j < i.sz := by
      rcases Nat.lt_or_ge j i.sz with h' | h'
      · exact h'
      · simp [List.getElem?_take, Nat.not_lt.2 h'] at hc
    have hc' : cs[j]? = some c := by simpa [List.getElem?_take, hj] using hc
    have hu' : U j = u := by simpa [hj] using hu
    subst hu'
    exact hV j c hc'
  · have hr := loadAt_agg (P := P) tt h ha (b := b) (o := o) (w := w') (us := (List.range i.sz).map U) (by simp) (fun j u hj => by
      have hj2 : j < i.sz := by
        rcases Nat.lt_or_ge j i.sz with h' | h'
        · exact h'
        · simp [Nat.not_lt.2 h'] at hj
      have hu : U j = u := by simpa [hj2] using hj
      obtain ⟨m, hm⟩ := hget j hj2
      rw [(e.resolve_left (by simp [pureB])).cell hS.1, ← hu]; exact (hU j m hm).1)
    simp [execOp, ho, hv, hr]

theorem rd_load_all {x : Operand} {t ty : Nat} {i : TyI} {cs : List PV} (tt : Tab P) (h : tt.l.get t = some i) (ha : i.agg = true) (hx : st.ev x = .p (.ref cs)) (hl : Nat.beq cs.length i.sz = true) :
    ReadOp P (.load t x) ty st (.p (.agg cs)) := by
  have hl' := Nat.eq_of_beq_eq_true hl
  have ht : cs.take i.sz = cs := by rw [← hl']; exact List.take_length
  have := rd_load_agg (P := P) (st := st) (ty := ty) tt h ha hx (by rw [ht, hl'])
  rwa [ht] at this

theorem rd_load_loc {x : Operand} {t ty : Nat} {i : TyI} {k ei j : Nat} {r : Row} {e : List PV} {m : PV} (tt : Tab P) (h : tt.l.get t = some i) (ha : i.agg = false) (hx : st.ev x = .loc k ei j)
    (hr : look st.rows k = some r) (he : r.els[ei]? = some e) (hm : e[j]? = some m) : ReadOp P (.load t x) ty st (.p m) := fun w0 a w L cp sz ln s => by
  obtain ⟨u, hu, hone, hv⟩ := s.rowCell hr he hm
  refine ⟨u, hv, fun op w' ho _ ex => ?_⟩
  have hc : w'.cell? ⟨L k, ei * sz k + j, none⟩ = some u := by rw [(ex.resolve_left (by simp [pureB])).cell (s.live_lt (by simp [liveIn, hr]))]; exact hu
  simp [execOp, ho, (s.ev_loc hx).1, loadAt_one tt h ha hc]

theorem rd_load_loc_agg {x : Operand} {t ty : Nat} {i : TyI} {k ei j : Nat} {r : Row} {e : List PV} (tt : Tab P) (h : tt.l.get t = some i) (ha : i.agg = true) (hx : st.ev x = .loc k ei j)
    (hr : look st.rows k = some r) (he : r.els[ei]? = some e) (hl : ((e.drop j).take i.sz).length = i.sz) : ReadOp P (.load t x) ty st (.p (.agg ((e.drop j).take i.sz))) := fun w0 a w L cp sz ln s => by
  have hget : ∀ (n : Nat), n < i.sz → ∃ m, e[j + n]? = some m := fun n hn => by
    have : n < ((e.drop j).take i.sz).length := by rw [hl]; exact hn
    have h2 : j + n < e.length := by simp at this; omega
    exact ⟨e[j + n], by simp [h2]⟩
  have hex : ∃ U : Nat → Value, ∀ n m, n < i.sz → e[j + n]? = some m → hcell w.heap (L k) (ei * sz k + (j + n)) = some (U n) ∧ VR w.heap (stab w0 st.rows st.x L w.heap) m (U n) := by
    refine ⟨fun n => (hcell w.heap (L k) (ei * sz k + (j + n))).getD Go.undef, fun n m hn hm => ?_⟩
    obtain ⟨u, hu, hone, hv⟩ := s.rowCell hr he hm
    simp only [hu, Option.getD_some]
    exact ⟨trivial, hv⟩
  obtain ⟨U, hU⟩ := hex
  refine ⟨.agg ((List.range i.sz).map U).toArray, VR.agg (by simpa using hl) (fun n c u hc hu => ?_), fun op w' ho _ ex => ?_⟩
  · have hn : n < i.sz := by
      rcases Nat.lt_or_ge n i.sz with h' | h'
      · exact h'
      · simp [List.getElem?_take, Nat.not_lt.2 h'] at hc
    have hc' : e[j + n]? = some c := by simpa [List.getElem?_take, hn, List.getElem?_drop] using hc
    have hu' : U n = u := by simpa [hn] using hu
    subst hu'
    exact (hU n c hn hc').2
  · have hrn := loadAt_agg (P := P) tt h ha (b := L k) (o := ei * sz k + j) (w := w') (us := (List.range i.sz).map U) (by simp) (fun n u hj => by
      have hn : n < i.sz := by
        rcases Nat.lt_or_ge n i.sz with h' | h'
        · exact h'
        · simp [Nat.not_lt.2 h'] at hj
      have hu : U n = u := by simpa [hn] using hj
      obtain ⟨m, hm⟩ := hget n hn
      rw [(ex.resolve_left (by simp [pureB])).cell (s.live_lt (by simp [liveIn, hr])), ← hu, Nat.add_assoc]; exact (hU n m hn hm).1)
    simp [execOp, ho, (s.ev_loc hx).1, hrn]

theorem rd_load_loc_all {x : Operand} {t ty : Nat} {i : TyI} {k ei : Nat} {r : Row} {e : List PV} (tt : Tab P) (h : tt.l.get t = some i) (ha : i.agg = true) (hx : st.ev x = .loc k ei 0)
    (hr : look st.rows k = some r) (he : r.els[ei]? = some e) (hl : Nat.beq e.length i.sz = true) : ReadOp P (.load t x) ty st (.p (.agg e)) := by
  have hl' := Nat.eq_of_beq_eq_true hl
  have ht : (e.drop 0).take i.sz = e := by rw [← hl']; simp
  have := rd_load_loc_agg (P := P) (st := st) (ty := ty) tt h ha hx hr he (by rw [ht, hl'])
  rwa [ht] at this

/-! ### Elements -/
theorem indexAt_run {t e z : Nat} {ti : TyI} (tt : Tab P) (h : tt.l.get t = some ti) (he : ti.el = some (e, z)) (ha : ti.agg = false) (hz : z ≠ 0) {k : IntKind} {i : Int} {b off n c : Nat} (h0 : 0 ≤ i) (h1 : i < n) (w : World) :
    (Instr.indexAt t (.slice (some ⟨b, off, none⟩) n c) (.int k i)).run P w = .ok (.pointer (some ⟨b, off + i.toNat * z, none⟩)) w := by
  obtain ⟨hu, hs⟩ := tt.slice h he ha
  have hi : ∃ inf, P.info? e = some inf ∧ inf.size = z := by
    unfold szOf at hs
    cases hi : P.info? e with
    | none => rw [hi] at hs; exact absurd hs.symm hz
    | some inf => rw [hi] at hs; exact ⟨inf, rfl, hs⟩
  obtain ⟨inf, hi, hs'⟩ := hi
  simp [Instr.indexAt, asIntOf, underlying, program, Sem.run, hu, h0, h1, run_sizeOf hi, hs', add_mk]

theorem rd_index {x y : Operand} {t ty ei z : Nat} {ti : TyI} {k : IntKind} {i : Int} {els : List (List PV)} {e : List PV} (tt : Tab P) (h : tt.l.get t = some ti) (hel : ti.el = some (ei, z)) (ha : ti.agg = false) (hz : Nat.beq z 0 = false)
    (hx : st.ev x = .p (.view z els)) (hy : st.ev y = .p (.int k i)) (h0 : 0 ≤ i) (he : els[i.toNat]? = some e) : ReadOp P (.indexAddr t x y) ty st (.p (.ref e)) := fun w0 a w L cp sz ln s => by
  have hm := s.ev_p hx
  have hz' : z ≠ 0 := fun e => by subst e; cases hz
  generalize hv : a.eval x = v at *
  cases hm with
  | view0 => simp at he
  | @view _ _ b off n c U hn hc hS hsz hU hV =>
    have hlt : i.toNat < n := by
      rw [← hn]
      exact (List.getElem?_eq_some_iff.1 he).1
    refine ⟨.pointer (some ⟨b, off + i.toNat * z, none⟩), VR.ref (fun j => U i.toNat j) hS (fun j m hm => ?_) (fun j m hm => hV _ _ _ _ he hm), fun op w' ho _ ex => ?_⟩
    · rw [Nat.add_assoc]; exact hU _ _ _ _ he hm
    · simp [execOp, ho, hv, s.ev_int hy, indexAt_run tt h hel ha hz' h0 (show i < (n : Int) by omega)]

theorem rd_index_own {x y : Operand} {t ty ei z : Nat} {ti : TyI} {k : IntKind} {i : Int} {rk : Nat} {r : Row} (tt : Tab P) (h : tt.l.get t = some ti) (hel : ti.el = some (ei, z)) (ha : ti.agg = false) (hz : Nat.beq z 0 = false)
    (hx : st.ev x = .own rk) (hr : look st.rows rk = some r) (hrz : r.sz = z) (hy : st.ev y = .p (.int k i)) (h0 : 0 ≤ i) (h1 : i < r.els.length) : ReadOp P (.indexAddr t x y) ty st (.loc rk i.toNat 0) := fun w0 a w L cp sz ln s => by
  have hz' : z ≠ 0 := fun e => by subst e; cases hz
  obtain ⟨_, _, hsz, hln⟩ := s.rows rk r hr
  refine ⟨.pointer (some ⟨L rk, i.toNat * sz rk + 0, none⟩), ⟨rfl, (s.ev_own hx).2⟩, fun op w' ho _ ex => ?_⟩
  simp [execOp, ho, (s.ev_own hx).1, s.ev_int hy, hln, indexAt_run tt h hel ha hz' h0 h1, hsz, hrz]

/-! ### Tuples -/
theorem rd_extract {x : Operand} {ty ix : Nat} {xs : List MV} {m : MV} (hx : st.ev x = .tup xs) (hm : xs[ix]? = some m) : ReadOp P (.extract x ix) ty st m := fun w0 a w L cp sz ln s => by
  have h := s.ev x
  rw [hx] at h
  obtain ⟨av, hv, hl, hall⟩ := h
  have hlt : ix < av.size := by rw [← hl]; exact (List.getElem?_eq_some_iff.1 hm).1
  have hu : av[ix]? = some av[ix] := by simp [hlt]
  have h1 := hall ix m _ hm hu
  refine ⟨av[ix], ?_, fun op w' ho _ _ => ?_⟩
  · cases m with
    | p m => exact h1
    | own k => exact h1
    | loc k i j => exact h1
    | win k i n => exact h1
    | undef => exact h1
    | tup xs => exact h1.elim
  · simp [execOp, ho, hv, Instr.extract, hlt]

end Go.Lo
namespace Go.Lo
open Go.RowKit

/-! ### What a call hands back -/
inductive RV1 where
  | p (v : PV)
  | fresh (r : Row)

abbrev RV := List RV1

def freshAt (rs : RV) (i : Nat) : Prop := ∃ r, rs[i]? = some (.fresh r)

/-- What a result may reach: what the call could read, and what is new, but not the rows handed back. -/
def newS (w w' : World) (S : Nat → Prop) (rs : RV) (bl : Nat → Nat) (b : Nat) : Prop := b < w'.heap.size ∧ (S b ∨ w.heap.size ≤ b) ∧ ∀ i, freshAt rs i → bl i ≠ b

def R1 (h : Array Obj) (N : Nat → Prop) (bl cp : Nat → Nat) (i : Nat) : RV1 → Value → Prop
  | .p m, v => VR h N m v
  | .fresh r, v => v = .slice (some ⟨bl i, 0, none⟩) r.els.length (cp i)

structure RRL (w w' : World) (S : Nat → Prop) (rs : RV) (v : Value) (bl cp : Nat → Nat) : Prop where
  fresh : ∀ i r, rs[i]? = some (.fresh r) → w.heap.size ≤ bl i ∧ RowR w'.heap (newS w w' S rs bl) (bl i) (cp i) r
  inj : ∀ i j, freshAt rs i → freshAt rs j → bl i = bl j → i = j
  one : ∀ r, rs = [r] → R1 w'.heap (newS w w' S rs bl) bl cp 0 r v
  many : rs.length ≠ 1 → ∃ a : Array Value, v = .tuple a ∧ rs.length = a.size ∧ ∀ (i : Nat) r u, rs[i]? = some r → a[i]? = some u → R1 w'.heap (newS w w' S rs bl) bl cp i r u

def RR (w w' : World) (S : Nat → Prop) (rs : RV) (v : Value) : Prop := ∃ bl cp, RRL w w' S rs v bl cp

def ArgsR (w : World) (S : Nat → Prop) (args : List PV) (vals : Array Value) : Prop :=
  args.length = vals.size ∧ ∀ (i : Nat) m u, args[i]? = some m → vals[i]? = some u → VR w.heap (fun b => b < w.heap.size ∧ S b) m u

def RO (P : Program) (f : FuncId) (args : List PV) (rs : RV) : Prop :=
  ∀ w S vals, ArgsR w S args vals → Calls P f vals w (fun e w' => ∃ v, e = .returned v ∧ RR w w' S rs v ∧ Ext w w')

/-! A function that writes the row of its first argument. -/
inductive RM where
  | p (m : PV)
  | self
  | unit

def RMok (b cp : Nat) (r : Row) : RM → Value → Prop
  | .p m, v => m.val = some v
  | .self, v => v = .slice (some ⟨b, 0, none⟩) r.els.length cp
  | .unit, v => v = .tuple #[]

def MO (P : Program) (f : FuncId) (r : Row) (args : List PV) (r' : Row) (res : RM) : Prop :=
  ∀ w S b cp vals, ¬ S b → RowR w.heap (fun x => x < w.heap.size ∧ S x) b cp r → ArgsR w S args vals →
    Calls P f (#[.slice (some ⟨b, 0, none⟩) r.els.length cp] ++ vals) w (fun e w' => ∃ v, e = .returned v ∧
      RowR w'.heap (fun x => x < w'.heap.size ∧ (S x ∨ w.heap.size ≤ x)) b cp r' ∧ RMok b cp r' res v ∧ Under ⟨w, S, (· = b), none⟩ w')

abbrev MCt := Row → List PV → (Row → RM → Prop) → Prop

abbrev Ct := List PV → (RV → Prop) → Prop

def CallOk (P : Program) (f : FuncId) : Prop := ∃ fn, P.funcs[f]? = some fn ∧ (fn.name == "runtime.NumGoroutine") = false ∧ fn.body.isNone = false

def Holds (P : Program) (f : FuncId) (c : Ct) : Prop := CallOk P f ∧ ∀ args K, c args K → ∃ rs, RO P f args rs ∧ K rs

def MHolds (P : Program) (f : FuncId) (c : MCt) : Prop := CallOk P f ∧ ∀ r args K, c r args K → ∃ r' res, MO P f r args r' res ∧ K r' res

/-! ### Arguments -/
def rdA (st : St) : MV → Option PV
  | .p v => some v
  | .own k => (look st.rows k).map fun r => .view r.sz r.els
  | .loc k i j => (look st.rows k).bind fun r => (r.els[i]?).map fun e => .ref (e.drop j)
  | _ => none

def rdArgs (st : St) : List Operand → Option (List PV)
  | [] => some []
  | x :: xs => match rdA st (st.ev x), rdArgs st xs with
    | some v, some vs => some (v :: vs)
    | _, _ => none

section
variable {P : Program} {st : St} {w0 : Bs} {a : Act} {w : World} {L cp sz ln : Nat → Nat}

theorem SRL.rd (s : SRL w0 st a w L cp sz ln) {m : MV} {v : Value} {x : PV} (hm : MR st.nk w.heap (stab w0 st.rows st.x L w.heap) L cp sz ln m v) (h : rdA st m = some x) : VR w.heap (fun b => b < w.heap.size ∧ True) x v := by
  cases m with
  | p m => cases h; exact VR.mono hm fun b hb => ⟨⟨hb.1, trivial⟩, rfl⟩
  | own k =>
    simp only [rdA, Option.map_eq_some_iff] at h
    obtain ⟨r, hr, rfl⟩ := h
    obtain ⟨hv, hk⟩ := hm
    subst hv
    obtain ⟨⟨C, h1, h2, h3, h4, h5, h6⟩, _, hsz, hln⟩ := s.rows k r hr
    have hlt := s.live_lt (k := k) (by simp [liveIn, hr])
    have hget : ∀ (i : Nat) e (j : Nat) m, r.els[i]? = some e → e[j]? = some m → ∃ u, hcell w.heap (L k) (0 + (i * r.sz + j)) = some u ∧ u.oneCell' = true ∧ VR w.heap (stab w0 st.rows st.x L w.heap) m u := by
      intro i e j m he hm
      obtain ⟨u, hu, h1', hv⟩ := h6 i e j m he hm
      exact ⟨u, by simp [hcell, h1, hu], h1', hv⟩
    refine VR.view (fun i j => (hcell w.heap (L k) (0 + (i * r.sz + j))).getD Go.undef) hln.symm (by rw [hln]; exact h3) ⟨hlt, trivial⟩ h5 (fun i e j m he hm => ?_) (fun i e j m he hm => ?_)
    · obtain ⟨u, hu, h1', hv⟩ := hget i e j m he hm
      simp only [hu, Option.getD_some]; exact ⟨trivial, h1'⟩
    · obtain ⟨u, hu, h1', hv⟩ := hget i e j m he hm
      simp only [hu, Option.getD_some]; exact hv.mono fun b hb => ⟨⟨hb.1, trivial⟩, rfl⟩
  | loc k i j =>
    simp only [rdA, Option.bind_eq_some_iff, Option.map_eq_some_iff] at h
    obtain ⟨r, hr, e, he, rfl⟩ := h
    obtain ⟨hv, hk⟩ := hm
    subst hv
    have hlt := s.live_lt (k := k) (by simp [liveIn, hr])
    have hget : ∀ (n : Nat) m, (e.drop j)[n]? = some m → ∃ u, hcell w.heap (L k) (i * sz k + j + n) = some u ∧ u.oneCell' = true ∧ VR w.heap (stab w0 st.rows st.x L w.heap) m u := by
      intro n m hm
      rw [List.getElem?_drop] at hm
      obtain ⟨⟨C, h1, h2, h3, h4, h5, h6⟩, _, hsz, _⟩ := s.rows k r hr
      obtain ⟨u, hu, h1', hv⟩ := h6 i e (j + n) m he hm
      exact ⟨u, by simp [hcell, h1, hsz, Nat.add_assoc, hu], h1', hv⟩
    refine VR.ref (fun n => (hcell w.heap (L k) (i * sz k + j + n)).getD Go.undef) ⟨hlt, trivial⟩ (fun n m hm => ?_) (fun n m hm => ?_)
    · obtain ⟨u, hu, h1', hv⟩ := hget n m hm
      simp only [hu, Option.getD_some]; exact ⟨trivial, h1'⟩
    · obtain ⟨u, hu, h1', hv⟩ := hget n m hm
      simp only [hu, Option.getD_some]; exact hv.mono fun b hb => ⟨⟨hb.1, trivial⟩, rfl⟩
  | win k i n => cases h
  | undef => cases h
  | tup xs => cases h

theorem SRL.rdArgs (s : SRL w0 st a w L cp sz ln) : ∀ (xs : List Operand) (args : List PV), rdArgs st xs = some args →
    args.length = xs.length ∧ ∀ (i : Nat) m u, args[i]? = some m → (xs.map a.eval)[i]? = some u → VR w.heap (fun b => b < w.heap.size ∧ True) m u
  | [], args, h => by cases h; exact ⟨rfl, fun i m u hm => by cases hm⟩
  | x :: xs, args, h => by
    simp only [Lo.rdArgs] at h
    split at h
    · rename_i v vs hv hvs
      cases h
      obtain ⟨hl, hall⟩ := s.rdArgs xs vs hvs
      refine ⟨by simp [hl], fun i m u hm hu => ?_⟩
      cases i with
      | zero =>
        simp at hm hu
        subst hm; subst hu
        exact s.rd (s.ev x) hv
      | succ i => exact hall i m u (by simpa using hm) (by simpa using hu)
    · cases h
/-- Arguments that are all plain. -/
def argsP (st : St) : List Operand → Bool
  | [] => true
  | x :: xs => match st.ev x with
    | .p _ => argsP st xs
    | _ => false

theorem SRL.rdArgsP (s : SRL w0 st a w L cp sz ln) : ∀ (xs : List Operand) (args : List PV), argsP st xs = true → Lo.rdArgs st xs = some args →
    args.length = xs.length ∧ ∀ (i : Nat) m u, args[i]? = some m → (xs.map a.eval)[i]? = some u → VR w.heap (fun b => b < w.heap.size ∧ stab w0 st.rows st.x L w.heap b) m u
  | [], args, _, h => by cases h; exact ⟨rfl, fun i m u hm => by cases hm⟩
  | x :: xs, args, hp, h => by
    simp only [Lo.rdArgs] at h
    simp only [argsP] at hp
    split at hp
    · rename_i v0 hv0
      split at h
      · rename_i v vs hv hvs
        cases h
        obtain ⟨hl, hall⟩ := s.rdArgsP xs vs hp hvs
        refine ⟨by simp [hl], fun i m u hm hu => ?_⟩
        cases i with
        | zero =>
          simp at hm hu
          subst hm; subst hu
          rw [hv0] at hv
          cases hv
          exact VR.mono (s.ev_p hv0) fun b hb => ⟨⟨hb.1, hb⟩, rfl⟩
        | succ i => exact hall i m u (by simpa using hm) (by simpa using hu)
      · cases h
    · cases hp
end

end Go.Lo
namespace Go.Lo
open Go.RowKit

def PV.sc : PV → Bool
  | .int _ _ => true
  | .bool _ => true
  | .str _ => true
  | .nil => true
  | .raw _ => true
  | _ => false

theorem VR.of_sc {h h' : Array Obj} {S S' : Nat → Prop} {m : PV} {v : Value} (hm : m.sc = true) (hv : VR h S m v) : VR h' S' m v := by
  cases hv <;> first | exact .int | exact .bool | exact .str | exact .nil | exact .raw | cases hm

theorem VR.vals_mk {h : Array Obj} {S : Nat → Prop} : ∀ (cs : List PV) (l : List Value), PV.val.vals cs = some l → cs.length = l.length ∧ ∀ (i : Nat) c u, cs[i]? = some c → l[i]? = some u → VR h S c u
  | [], l, h1 => by cases h1; exact ⟨rfl, fun i c u hc => by cases hc⟩
  | c :: cs, l, h1 => by
    have key : ∀ (u : Value), VR h S c u → (PV.val.vals cs).map (u :: ·) = some l → (c :: cs).length = l.length ∧ ∀ (i : Nat) c' u', (c :: cs)[i]? = some c' → l[i]? = some u' → VR h S c' u' := by
      intro u hu hl
      simp only [Option.map_eq_some_iff] at hl
      obtain ⟨l0, hl0, rfl⟩ := hl
      obtain ⟨hlen, hall⟩ := VR.vals_mk cs l0 hl0
      refine ⟨by simp [hlen], fun i c' u' hc hu' => ?_⟩
      cases i with
      | zero => simp at hc hu'; subst hc; subst hu'; exact hu
      | succ i => exact hall i c' u' (by simpa using hc) (by simpa using hu')
    cases c <;> simp only [PV.val.vals] at h1 <;> first | exact key _ .int h1 | exact key _ .bool h1 | exact key _ .str h1 | exact key _ .nil h1 | exact key _ .raw h1 | cases h1

theorem VR.of_val_mk {h : Array Obj} {S : Nat → Prop} {m : PV} {v : Value} (hm : m.val = some v) : VR h S m v := by
  cases m <;> simp only [PV.val, Option.some.injEq, Option.map_eq_some_iff] at hm <;> try (cases hm; done)
  case int => subst hm; exact .int
  case bool => subst hm; exact .bool
  case str => subst hm; exact .str
  case nil => subst hm; exact .nil
  case raw => subst hm; exact .raw
  case agg cs =>
    obtain ⟨l, hl, rfl⟩ := hm
    obtain ⟨h1, h2⟩ := VR.vals_mk (h := h) (S := S) cs l hl
    exact .agg (by simpa using h1) (fun i c u hc hu => h2 i c u hc (by simpa using hu))

theorem look_append {α : Type} : ∀ (x y : List (Nat × α)) (k : Nat), look (x ++ y) k = (match look x k with | some r => some r | none => look y k)
  | [], y, k => rfl
  | (a, r) :: x, y, k => by
    simp only [List.cons_append, look]
    cases Nat.beq a k with
    | true => rfl
    | false => exact look_append x y k

theorem MR1.env {nk nk' : Nat} {h h' : Array Obj} {S S' : Nat → Prop} {L cp sz ln L' cp' sz' ln' : Nat → Nat} {m : MV} {v : Value} (hm : MR1 nk h S L cp sz ln m v) (hb : ∀ b, S b → S' b ∧ h'[b]? = h[b]?)
    (hold : ∀ k, k < nk → L' k = L k ∧ cp' k = cp k ∧ sz' k = sz k ∧ ln' k = ln k) (hnk : nk ≤ nk') : MR1 nk' h' S' L' cp' sz' ln' m v := by
  cases m with
  | p m => exact VR.mono hm hb
  | own k =>
    obtain ⟨h1, h2⟩ := hm
    obtain ⟨e1, e2, e3, e4⟩ := hold k h2
    exact ⟨by rw [h1, e1, e2, e4], by omega⟩
  | loc k i j =>
    obtain ⟨h1, h2⟩ := hm
    obtain ⟨e1, e2, e3, e4⟩ := hold k h2
    exact ⟨by rw [h1, e1, e3], by omega⟩
  | win k i n =>
    obtain ⟨h1, h2⟩ := hm
    obtain ⟨e1, e2, e3, e4⟩ := hold k h2
    exact ⟨by rw [h1, e1, e2, e3], by omega⟩
  | undef => exact hm
  | tup xs => exact hm

theorem MR.env {nk nk' : Nat} {h h' : Array Obj} {S S' : Nat → Prop} {L cp sz ln L' cp' sz' ln' : Nat → Nat} {m : MV} {v : Value} (hm : MR nk h S L cp sz ln m v) (hb : ∀ b, S b → S' b ∧ h'[b]? = h[b]?)
    (hold : ∀ k, k < nk → L' k = L k ∧ cp' k = cp k ∧ sz' k = sz k ∧ ln' k = ln k) (hnk : nk ≤ nk') : MR nk' h' S' L' cp' sz' ln' m v := by
  cases m with
  | tup xs =>
    obtain ⟨a, rfl, hl, hv⟩ := hm
    exact ⟨a, rfl, hl, fun i x u hx hu => (hv i x u hx hu).env hb hold hnk⟩
  | p m => exact MR1.env (m := .p m) hm hb hold hnk
  | own k => exact MR1.env (m := .own k) hm hb hold hnk
  | loc k i j => exact MR1.env (m := .loc k i j) hm hb hold hnk
  | win k i n => exact MR1.env (m := .win k i n) hm hb hold hnk
  | undef => exact MR1.env (m := .undef) hm hb hold hnk

section
variable {P : Program} {st : St} {w0 : Bs} {a : Act} {w w' : World} {L cp sz ln L' cp' sz' ln' : Nat → Nat}

theorem SRL.add {new : List (Nat × Row)} {nk' : Nat} (s : SRL w0 st a w L cp sz ln) (e : Ext w w')
    (hold : ∀ k, k < st.nk → L' k = L k ∧ cp' k = cp k ∧ sz' k = sz k ∧ ln' k = ln k)
    (hkeys : ∀ k, liveIn new k → st.nk ≤ k ∧ k < nk') (hnk : st.nk ≤ nk')
    (hnew : ∀ k r, look new k = some r → RowR w'.heap (stab w0 (new ++ st.rows) st.x L' w'.heap) (L' k) (cp' k) r ∧ w.heap.size ≤ L' k ∧ sz' k = r.sz ∧ ln' k = r.els.length)
    (hinj : ∀ k k', liveIn new k → liveIn new k' → L' k = L' k' → k = k') :
    SRL w0 { st with nk := nk', rows := new ++ st.rows } a w' L' cp' sz' ln' ∧ (∀ b, stab w0 st.rows st.x L w.heap b → stab w0 (new ++ st.rows) st.x L' w'.heap b ∧ w'.heap[b]? = w.heap[b]?) := by
  have hlive : ∀ k, liveIn (new ++ st.rows) k → liveIn new k ∨ liveIn st.rows k := fun k hk => by
    unfold liveIn at *
    rw [look_append] at hk
    cases h : look new k with
    | some r => left; rfl
    | none => rw [h] at hk; right; exact hk
  have hLold : ∀ k, liveIn st.rows k → L' k = L k := fun k hk => (hold k (s.keys k hk)).1
  have hlt : ∀ k, liveIn st.rows k → L k < w.heap.size := fun k hk => s.live_lt hk
  have hnl : ∀ k, liveIn new k → w.heap.size ≤ L' k := fun k hk => by
    obtain ⟨r, hr⟩ := Option.isSome_iff_exists.1 hk
    exact (hnew k r hr).2.1
  have hb : ∀ b, stab w0 st.rows st.x L w.heap b → stab w0 (new ++ st.rows) st.x L' w'.heap b ∧ w'.heap[b]? = w.heap[b]? := fun b hb => by
    refine ⟨⟨Nat.lt_of_lt_of_le hb.1 e.size, hb.2.1, fun k hk => ?_⟩, e.block b hb.1⟩
    rcases hlive k hk with h | h
    · have := hnl k h; have := hb.1; omega
    · rw [hLold k h]; exact hb.2.2 k h
  refine ⟨⟨s.defers, s.size, fun t => (s.tmps t).env hb hold hnk, fun k r hr => ?_, fun k k' hk hk' he => ?_, fun k hk => ?_, s.below.grow e, Nat.lt_of_lt_of_le s.pos hnk, fun b c h => ?_, fun b o hx => ?_⟩, hb⟩
  · rw [look_append] at hr
    cases h : look new k with
    | some r' =>
      rw [h] at hr; cases hr
      obtain ⟨h1, h2, h3, h4⟩ := hnew k r h
      exact ⟨h1, .inl (Nat.le_trans s.below.size h2), h3, h4⟩
    | none =>
      rw [h] at hr
      replace hr : look st.rows k = some r := hr
      have hl : liveIn st.rows k := by unfold liveIn; rw [hr]; rfl
      obtain ⟨h1, h2, h3, h4⟩ := s.rows k r hr
      obtain ⟨e1, e2, e3, e4⟩ := hold k (s.keys k hl)
      rw [e1, e2, e3, e4]
      exact ⟨h1.mono hb (e.block _ h1.lt), h2, h3, h4⟩
  · rcases hlive k hk with h | h <;> rcases hlive k' hk' with h' | h'
    · exact hinj k k' h h' he
    · have := hnl k h; have := hlt k' h'; rw [hLold k' h'] at he; omega
    · have := hnl k' h'; have := hlt k h; rw [hLold k h] at he; omega
    · rw [hLold k h, hLold k' h'] at he; exact s.inj k k' h h' he
  · rcases hlive k hk with h | h
    · exact (hkeys k h).2
    · exact Nat.lt_of_lt_of_le (s.keys k h) hnk
  · obtain ⟨h1, h2⟩ := s.pin b c h
    obtain ⟨e1, e2, _⟩ := hold 0 s.pos
    exact ⟨e1.trans h1, e2.trans h2⟩
  · obtain ⟨f1, f2, f3⟩ := s.frag b o hx
    have hbl := lt_of_get f1
    refine ⟨(e.block b hbl).trans f1, f2, fun k hk => ?_⟩
    rcases hlive k hk with h | h
    · have := hnl k h; omega
    · rw [hLold k h]; exact f3 k h
end

/-! ### Results bound -/
def bindMs (k : Nat) : RV → List MV
  | [] => []
  | .p m :: r => .p m :: bindMs (k + 1) r
  | .fresh _ :: r => .own k :: bindMs (k + 1) r
def bindRows (k : Nat) : RV → List (Nat × Row)
  | [] => []
  | .p _ :: r => bindRows (k + 1) r
  | .fresh row :: r => (k, row) :: bindRows (k + 1) r
def bindM (k : Nat) (rs : RV) : MV := match bindMs k rs with
  | [m] => m
  | ms => .tup ms

theorem look_bindRows : ∀ (rs : RV) (k x : Nat) (r : Row), look (bindRows k rs) x = some r → k ≤ x ∧ rs[x - k]? = some (.fresh r)
  | [], k, x, r, h => by cases h
  | .p m :: rs, k, x, r, h => by
    obtain ⟨h1, h2⟩ := look_bindRows rs (k + 1) x r h
    exact ⟨by omega, by rw [show x - k = (x - (k + 1)) + 1 by omega]; simpa using h2⟩
  | .fresh row :: rs, k, x, r, h => by
    simp only [bindRows, look] at h
    cases hb : Nat.beq k x with
    | true =>
      rw [hb] at h; cases h
      have := Nat.eq_of_beq_eq_true hb
      subst this
      exact ⟨Nat.le_refl _, by simp⟩
    | false =>
      rw [hb] at h
      obtain ⟨h1, h2⟩ := look_bindRows rs (k + 1) x r h
      exact ⟨by omega, by rw [show x - k = (x - (k + 1)) + 1 by omega]; simpa using h2⟩

theorem bindMs_get : ∀ (rs : RV) (k i : Nat) (m : MV), (bindMs k rs)[i]? = some m → ∃ r, rs[i]? = some r ∧ m = (match r with | .p x => .p x | .fresh _ => .own (k + i))
  | [], k, i, m, h => by cases h
  | .p x :: rs, k, 0, m, h => by simp [bindMs] at h; exact ⟨_, rfl, h.symm⟩
  | .fresh x :: rs, k, 0, m, h => by simp [bindMs] at h; exact ⟨_, rfl, h.symm⟩
  | .p x :: rs, k, i + 1, m, h => by
    obtain ⟨r, hr, hm⟩ := bindMs_get rs (k + 1) i m (by simpa [bindMs] using h)
    refine ⟨r, by simpa using hr, ?_⟩
    rw [hm]; cases r <;> simp; omega
  | .fresh x :: rs, k, i + 1, m, h => by
    obtain ⟨r, hr, hm⟩ := bindMs_get rs (k + 1) i m (by simpa [bindMs] using h)
    refine ⟨r, by simpa using hr, ?_⟩
    rw [hm]; cases r <;> simp; omega

theorem bindMs_length : ∀ (rs : RV) (k : Nat), (bindMs k rs).length = rs.length
  | [], k => rfl
  | .p x :: rs, k => by simp [bindMs, bindMs_length rs]
  | .fresh x :: rs, k => by simp [bindMs, bindMs_length rs]

def St.bound (st : St) (rs : RV) : St := { st with nk := st.nk + rs.length, rows := bindRows st.nk rs ++ st.rows }

def rv1Ok : RV1 → Prop
  | .p m => m.val.isSome = true
  | .fresh r => ∀ e ∈ r.els, ∀ m ∈ e, m.sc = true

theorem RowR.sc {h h' : Array Obj} {S S' : Nat → Prop} {b cp : Nat} {r : Row} (hr : RowR h S b cp r) (hsc : ∀ e ∈ r.els, ∀ m ∈ e, m.sc = true) : RowR h S' b cp r := by
  obtain ⟨C, h1, h2, h3, h4, h5, h6⟩ := hr
  exact ⟨C, h1, h2, h3, h4, h5, fun i e j m he hm => let ⟨u, hu, h1, hv⟩ := h6 i e j m he hm; ⟨u, hu, h1, hv.of_sc (hsc e (List.mem_of_getElem? he) m (List.mem_of_getElem? hm))⟩⟩

theorem SRL.bound {st : St} {w0 : Bs} {a : Act} {w w' : World} {L cp sz ln : Nat → Nat} (s : SRL w0 st a w L cp sz ln) (e : Ext w w') {S : Nat → Prop} {rs : RV} {v : Value} (hr : RR w w' S rs v) (hS : (∀ b, S b → b < w.heap.size → stab w0 st.rows st.x L w.heap b) ∨ ∀ r ∈ rs, rv1Ok r) :
    ∃ L' cp' sz' ln', SRL w0 (st.bound rs) a w' L' cp' sz' ln' ∧ MR (st.bound rs).nk w'.heap (stab w0 (st.bound rs).rows st.x L' w'.heap) L' cp' sz' ln' (bindM st.nk rs) v := by
  obtain ⟨bl, bc, hrr⟩ := hr
  let rowOf (k : Nat) : Row := match rs[k - st.nk]? with | some (.fresh r) => r | _ => ⟨0, 0, []⟩
  let L' := fun k => if k < st.nk then L k else bl (k - st.nk)
  let cp' := fun k => if k < st.nk then cp k else bc (k - st.nk)
  let sz' := fun k => if k < st.nk then sz k else (rowOf k).sz
  let ln' := fun k => if k < st.nk then ln k else (rowOf k).els.length
  have hnew : (∀ b, S b → b < w.heap.size → stab w0 st.rows st.x L w.heap b) → ∀ b, newS w w' S rs bl b → stab w0 (bindRows st.nk rs ++ st.rows) st.x L' w'.heap b := fun hS b hb => by
    obtain ⟨h1, h2, h3⟩ := hb
    have hcase : (b < w.heap.size ∧ stab w0 st.rows st.x L w.heap b) ∨ w.heap.size ≤ b := by
      rcases Nat.lt_or_ge b w.heap.size with hlt | hge
      · rcases h2 with h | h
        · exact .inl ⟨hlt, hS b h hlt⟩
        · omega
      · exact .inr hge
    refine ⟨h1, ?_, fun k hk => ?_⟩
    · rcases hcase with h | h
      · exact h.2.2.1
      · exact ⟨.inr (Nat.le_trans s.below.size h), s.frag_none h⟩
    · unfold liveIn at hk
      rw [look_append] at hk
      cases hl : look (bindRows st.nk rs) k with
      | some r =>
        obtain ⟨h1', h2'⟩ := look_bindRows _ _ _ _ hl
        have hnl : ¬ k < st.nk := by omega
        simp only [L', hnl, if_false]
        exact h3 _ ⟨r, h2'⟩
      | none =>
        rw [hl] at hk
        have hkl : liveIn st.rows k := hk
        have hlt := s.keys k hkl
        simp only [L', hlt, if_true]
        rcases hcase with h | h
        · exact h.2.2.2 k hkl
        · have := s.live_lt hkl; omega
  have hadd := s.add (new := bindRows st.nk rs) (nk' := st.nk + rs.length) (L' := L') (cp' := cp') (sz' := sz') (ln' := ln') e (fun k hk => by simp [L', cp', sz', ln', hk])
    (fun k hk => by
      obtain ⟨r, hr⟩ := Option.isSome_iff_exists.1 hk
      obtain ⟨h1, h2⟩ := look_bindRows _ _ _ _ hr
      have := (List.getElem?_eq_some_iff.1 h2).1
      exact ⟨h1, by omega⟩) (by omega)
    (fun k r hk => by
      obtain ⟨h1, h2⟩ := look_bindRows _ _ _ _ hk
      obtain ⟨h3, h4⟩ := hrr.fresh _ _ h2
      have hnl : ¬ k < st.nk := by omega
      have hro : rowOf k = r := by simp only [rowOf, h2]
      refine ⟨?_, ?_, ?_, ?_⟩
      · simp only [L', cp', hnl, if_false]
        rcases hS with hS | hS
        · exact h4.mono (fun b hb => ⟨hnew hS b hb, rfl⟩) rfl
        · exact h4.sc (h' := w'.heap) (hS _ (List.mem_of_getElem? h2))
      · simp only [L', hnl, if_false]; exact h3
      · simp only [sz', hnl, if_false, hro]
      · simp only [ln', hnl, if_false, hro])
    (fun k k' hk hk' he => by
      obtain ⟨r, hr⟩ := Option.isSome_iff_exists.1 hk
      obtain ⟨r', hr'⟩ := Option.isSome_iff_exists.1 hk'
      obtain ⟨h1, h2⟩ := look_bindRows _ _ _ _ hr
      obtain ⟨h1', h2'⟩ := look_bindRows _ _ _ _ hr'
      have hnl : ¬ k < st.nk := by omega
      have hnl' : ¬ k' < st.nk := by omega
      simp only [L', hnl, hnl', if_false] at he
      have := hrr.inj _ _ ⟨r, h2⟩ ⟨r', h2'⟩ he
      omega)
  refine ⟨L', cp', sz', ln', hadd.1, ?_⟩
  have hone : ∀ (i : Nat) r m u, rs[i]? = some r → m = (match r with | .p x => MV.p x | .fresh _ => .own (st.nk + i)) → R1 w'.heap (newS w w' S rs bl) bl bc i r u → MR1 (st.bound rs).nk w'.heap (stab w0 (st.bound rs).rows st.x L' w'.heap) L' cp' sz' ln' m u := by
    intro i r m u hi hm hR
    have hlt := (List.getElem?_eq_some_iff.1 hi).1
    cases r with
    | p x =>
      subst hm
      rcases hS with hS | hS
      · exact VR.mono hR fun b hb => ⟨hnew hS b hb, rfl⟩
      · obtain ⟨v', hv'⟩ := Option.isSome_iff_exists.1 (show x.val.isSome = true from hS _ (List.mem_of_getElem? hi))
        rw [VR.of_val hv' hR]; exact VR.of_val_mk hv'
    | fresh x =>
      subst hm
      have hnl : ¬ st.nk + i < st.nk := by omega
      have hro : rowOf (st.nk + i) = x := by simp only [rowOf, Nat.add_sub_cancel_left, hi]
      refine ⟨?_, by show st.nk + i < st.nk + rs.length; omega⟩
      simp only [L', cp', ln', hnl, if_false, Nat.add_sub_cancel_left, hro]
      exact hR
  unfold bindM
  split
  · rename_i m hm
    have hl : rs.length = 1 := by rw [← bindMs_length rs st.nk, hm]; rfl
    obtain ⟨r, hr⟩ : ∃ r, rs = [r] := List.length_eq_one_iff.1 hl
    have hR := hrr.one r hr
    obtain ⟨r', hr', hm'⟩ := bindMs_get rs st.nk 0 m (by rw [hm]; rfl)
    have : r' = r := by rw [hr] at hr'; simpa using hr'.symm
    subst this
    have h1 := hone 0 r' m v hr' hm' hR
    cases m with
    | p m => exact h1
    | own k => exact h1
    | loc k i j => exact h1
    | win k i n => exact h1
    | undef => exact h1
    | tup xs => exact h1.elim
  · rename_i hne
    have hl : rs.length ≠ 1 := fun h => by
      obtain ⟨m, hm⟩ := List.length_eq_one_iff.1 (show (bindMs st.nk rs).length = 1 by rw [bindMs_length]; exact h)
      exact hne m hm
    obtain ⟨av, hv, hlen, hall⟩ := hrr.many hl
    refine ⟨av, hv, by rw [bindMs_length, hlen], fun i m u hm hu => ?_⟩
    obtain ⟨r, hr, hm'⟩ := bindMs_get rs st.nk i m hm
    exact hone i r m u hr hm' (hall i r u hr hu)

/-! ### Calls -/
theorem call_run {P : Program} {f : Nat} (hc : CallOk P f) {xs : Array Operand} {ats : Array TypeId} (ρ : Operand → Value) (hρ : ρ (.func f) = .func (.func f) #[] #[]) (o : Oper) (ho : o.op = .call { callee := .value (.func f), args := xs, argTypes := ats }) (w : World) :
    (execOp ρ o).run P w = .ok (.enter f (xs.map ρ)) w := by
  obtain ⟨fn, h1, h2, h3⟩ := hc
  have hcf : (callFunc f (xs.map ρ)).run P w = .ok (.enter f (xs.map ρ)) w := by
    simp only [callFunc, program, Sem.run, Sem.run_bind, Result.andThen_ok, h1, h2, h3, Bool.false_eq_true, if_false, Sem.run_pure]
  simp [execOp, ho, resolve, hρ, Deferred.ofValue, invoke, hcf]

section
variable {q : Bool} {P : Program} {ops : Array Oper} {rest : List Oper} {T : St → Prop} {st : St} {d : Nat} {ty : TypeId} {pos : String} {aft : Array Edge} {f : Nat} {xs : Array Operand} {ats : Array TypeId} {c : Ct} {args : List PV}

theorem W.callR (hH : Holds P f c) (ha : rdArgs st xs.toList = some args) (hd : Nat.blt d st.n = true)
    (hk : c args (fun rs => (argsP st xs.toList = true ∨ ∀ r ∈ rs, rv1Ok r) ∧ W false P ops rest T ((st.bound rs).put d (bindM st.nk rs)))) :
    W false P ops (⟨some d, .call { callee := .value (.func f), args := xs, argTypes := ats }, ty, pos, aft, none⟩ :: rest) T st := by
  have hd' : d < st.n := by simpa [Nat.blt_eq] using hd
  intro w0 a w Qr hs hT
  obtain ⟨L, cp, sz, ln, s⟩ := hs
  obtain ⟨rs, hro, hor, hK⟩ := hH.2 _ _ hk
  simp only [wpList, wanted_none, if_true]
  refine .inl ?_
  unfold Oper.wp
  rw [call_run hH.1 a.eval rfl _ rfl]
  simp only [Oper.upon]
  rcases hor with hp | hp
  · obtain ⟨hl, hall⟩ := s.rdArgsP _ _ hp ha
    have hA : ArgsR w (stab w0 st.rows st.x L w.heap) args (xs.map a.eval) := ⟨by simp [hl], fun i m u hm hu => hall i m u hm (by simpa using hu)⟩
    refine (hro w _ _ hA).mono ?_
    rintro e w' ⟨v, rfl, hr, hex⟩
    obtain ⟨L', cp', sz', ln', s', hm⟩ := s.bound hex hr (.inl fun b hb _ => hb)
    exact hK w0 _ w' Qr ⟨L', cp', sz', ln', s'.put (show d < (st.bound rs).n from hd') hm⟩ hT
  · obtain ⟨hl, hall⟩ := s.rdArgs _ _ ha
    have hA : ArgsR w (fun _ => True) args (xs.map a.eval) := ⟨by simp [hl], fun i m u hm hu => hall i m u hm (by simpa using hu)⟩
    refine (hro w _ _ hA).mono ?_
    rintro e w' ⟨v, rfl, hr, hex⟩
    obtain ⟨L', cp', sz', ln', s', hm⟩ := s.bound hex hr (.inr hp)
    exact hK w0 _ w' Qr ⟨L', cp', sz', ln', s'.put (show d < (st.bound rs).n from hd') hm⟩ hT

theorem W.call (hH : Holds P f c) (ha : rdArgs st xs.toList = some args) (hd : Nat.blt d st.n = true)
    (hk : c args (fun rs => ∃ m v, rs = [.p m] ∧ m.val = some v ∧ W q P ops rest T (st.put d (.p m)))) :
    W q P ops (⟨some d, .call { callee := .value (.func f), args := xs, argTypes := ats }, ty, pos, aft, none⟩ :: rest) T st := by
  have hd' : d < st.n := by simpa [Nat.blt_eq] using hd
  obtain ⟨rs, hro, m, v, hrs, hv, hK⟩ := hH.2 _ _ hk
  subst hrs
  have hcall : ∀ (w0 : Bs) (a : Act) (w w' : World) (L cp sz ln : Nat → Nat), SRL w0 st a w L cp sz ln → Ext w w' →
      Calls P f (xs.map a.eval) w' (fun e w'' => e = .returned v ∧ Ext w w'') := by
    intro w0 a w w' L cp sz ln s hex
    have s' := s.grow hex
    obtain ⟨hl, hall⟩ := s'.rdArgs _ _ ha
    have hA : ArgsR w' (fun _ => True) args (xs.map a.eval) := ⟨by simp [hl], fun i m u hm hu => hall i m u hm (by simpa using hu)⟩
    refine (hro w' _ _ hA).mono ?_
    rintro e w'' ⟨u, rfl, ⟨bl, cp, hr⟩, hex'⟩
    have := hr.one _ rfl
    simp only [R1] at this
    have := VR.of_val hv this
    subst this
    exact ⟨rfl, hex.trans hex'⟩
  cases q
  · intro w0 a w Qr hs hT
    obtain ⟨L, cp, sz, ln, s⟩ := hs
    simp only [wpList, wanted_none, if_true]
    refine .inl ?_
    unfold Oper.wp
    rw [call_run hH.1 a.eval rfl _ rfl]
    simp only [Oper.upon]
    refine (hcall w0 a w w L cp sz ln s (Ext.refl w)).mono ?_
    rintro e w' ⟨rfl, hex⟩
    exact hK w0 _ w' Qr (SR.put (s.grow hex) hd' (VR.of_val_mk hv)) hT
  · intro w0 a w Kr hs hT
    obtain ⟨L, cp, sz, ln, s⟩ := hs
    simp only [wpQuiet, wanted_none, if_true]
    refine ⟨v, fun w' hw' => ?_, hK w0 _ w Kr (SR.put s hd' (VR.of_val_mk hv)) hT⟩
    unfold Oper.quietAt
    rw [call_run hH.1 a.eval rfl _ rfl]
    exact ⟨rfl, hcall w0 a w w' L cp sz ln s hw'⟩
end

end Go.Lo
namespace Go.Lo
open Go.RowKit

def Wc (P : Program) (code : Code) (Q : Exit → St → Prop) (st : St) : Prop :=
  ∀ w0 a w (Qr : Exit → Act → World → Prop), SR w0 st a w → (∀ e st' a' w', Q e st' → SR w0 st' a' w' → Qr e a' w') → code.wp P Qr a w

def thenQ (T : St → Prop) (Q : Exit → St → Prop) : Exit → St → Prop
  | .normal, st => T st
  | e, st => Q e st

def blockQ (id : Nat) (Q : Exit → St → Prop) : Exit → St → Prop
  | .exit id', st => bif Nat.beq id' id then Q .normal st else Q (.exit id') st
  | e, st => Q e st

section
variable {P : Program} {st : St} {Q : Exit → St → Prop}

theorem Wc.skip (h : Q .normal st) : Wc P .skip Q st := fun w0 a w Qr hs hq => wp_skip (hq _ _ _ _ h hs)
theorem Wc.exit {id : Nat} (h : Q (.exit id) st) : Wc P (.exit id) Q st := fun w0 a w Qr hs hq => wp_exit (hq _ _ _ _ h hs)
theorem Wc.ret (h : Q .ret st) : Wc P .ret Q st := fun w0 a w Qr hs hq => wp_ret (hq _ _ _ _ h hs)

theorem Wc.seq {x y : Code} (h : Wc P x (thenQ (Wc P y Q) Q) st) : Wc P (.seq x y) Q st := fun w0 a w Qr hs hq =>
  wp_seq (h w0 a w _ hs fun e st' a' w' hQ hs' => by
    cases e with
    | normal => exact hQ w0 a' w' Qr hs' hq
    | exit id => exact hq _ st' _ _ hQ hs'
    | goto l => exact hq _ st' _ _ hQ hs'
    | ret => exact hq _ st' _ _ hQ hs'
    | panic ch => exact hq _ st' _ _ hQ hs'
    | outgrown => exact hq _ st' _ _ hQ hs')

theorem Wc.block {id : Nat} {c : Code} (h : Wc P c (blockQ id Q) st) : Wc P (.block id c) Q st := fun w0 a w Qr hs hq =>
  wp_block (h w0 a w _ hs fun e st' a' w' hQ hs' => by
    cases e with
    | exit id' =>
      simp only [blockQ, Exit.inBlock] at *
      by_cases he : id' = id
      · subst he
        rw [if_pos rfl]
        rw [show Nat.beq id' id' = true from Nat.beq_refl id'] at hQ
        exact hq _ st' _ _ hQ hs'
      · rw [if_neg he]
        have : Nat.beq id' id = false := by
          cases hb : Nat.beq id' id with
          | false => rfl
          | true => exact absurd (Nat.eq_of_beq_eq_true hb) he
        rw [this] at hQ
        exact hq _ st' _ _ hQ hs'
    | normal => exact hq _ st' _ _ hQ hs'
    | goto l => exact hq _ st' _ _ hQ hs'
    | ret => exact hq _ st' _ _ hQ hs'
    | panic ch => exact hq _ st' _ _ hQ hs'
    | outgrown => exact hq _ st' _ _ hQ hs')

theorem Wc.cond_t {c : Operand} {x y : Code} (hc : st.ev c = .p (.bool true)) (h : Wc P x Q st) : Wc P (.cond c x y) Q st := fun w0 a w Qr hs hq => by
  have hk := h w0 a w Qr hs hq
  obtain ⟨L, cp, sz, ln, s⟩ := hs
  exact wp_cond_true (s.ev_bool hc) hk
theorem Wc.cond_f {c : Operand} {x y : Code} (hc : st.ev c = .p (.bool false)) (h : Wc P y Q st) : Wc P (.cond c x y) Q st := fun w0 a w Qr hs hq => by
  have hk := h w0 a w Qr hs hq
  obtain ⟨L, cp, sz, ln, s⟩ := hs
  exact wp_cond_false (s.ev_bool hc) hk
theorem Wc.cond {c : Operand} {x y : Code} {b : Bool} (hc : st.ev c = .p (.bool b)) (ht : b = true → Wc P x Q st) (hf : b = false → Wc P y Q st) : Wc P (.cond c x y) Q st := by
  cases b
  · exact Wc.cond_f hc (hf rfl)
  · exact Wc.cond_t hc (ht rfl)

theorem Wc.condT {c : Operand} {x y : Code} {b : Bool} (hc : st.ev c = .p (.bool b)) (hb : b = true) (h : Wc P x Q st) : Wc P (.cond c x y) Q st := Wc.cond_t (hb ▸ hc) h
theorem Wc.condF {c : Operand} {x y : Code} {b : Bool} (hc : st.ev c = .p (.bool b)) (hb : b = false) (h : Wc P y Q st) : Wc P (.cond c x y) Q st := Wc.cond_f (hb ▸ hc) h

theorem Wc.region {id : Nat} {l : List Oper} (h : W false P l.toArray l (Q .normal) st) : Wc P (.region id l.toArray false) Q st := fun w0 a w Qr hs hq =>
  wp_region_lit (h w0 a w Qr hs fun st' a' w' hT hs' => hq _ _ _ _ hT hs')

theorem Ext.drew (w : World) : Ext w { w with drawn := w.drawn + 1 } := ⟨rfl, rfl, rfl, Nat.le_refl _, fun _ _ => rfl⟩

theorem Wc.regionQ {id : Nat} {l : List Oper} (hm : P.follows .mixedOrders = true) (hB : Region.lexB .any l.toArray = true) (h : W true P l.toArray l (Q .normal) st) : Wc P (.region id l.toArray true) Q st := fun w0 a w Qr hs hq =>
  wp_region_quiet (C := Ext w) hm hB (Ext.drew w) (by
    have := h w0 a w (fun a' => ∀ w', Ext w w' → Qr .normal a' w') hs (fun st' a' hT hs' w' hw' => hq _ _ _ _ hT (hs'.grow hw'))
    simpa using this)

theorem Wc.regionT {id : Nat} {l : List Oper} (n : Nat) (hm : P.follows .mixedOrders = true) (hB : Region.lexTailB .any l.toArray n = true)
    (h : W true P l.toArray (l.take n) (W false P l.toArray (l.drop n) (Q .normal)) st) : Wc P (.region id l.toArray true) Q st := fun w0 a w Qr hs hq =>
  wp_region_quiet_tail (C := Ext w) n hm hB (Ext.drew w)
    (h w0 a w _ hs (fun st' a' hT hs' w' hw' => hT w0 a' w' Qr (hs'.grow hw') fun st'' a'' w'' hT' hs'' => hq _ _ _ _ hT' hs''))

/-! ### Loops -/
def LeT (st : St) : List (Nat × MV) → Prop
  | [] => True
  | (t, m) :: r => st.get t = m ∧ LeT st r
def LeR (rows : List (Nat × Row)) : List (Nat × Row) → Prop
  | [] => True
  | (k, r) :: q => look rows k = some r ∧ LeR rows q
def keysB (nk : Nat) : List (Nat × Row) → Bool
  | [] => true
  | (k, _) :: r => Nat.blt k nk && keysB nk r
def MV.keyB (nk : Nat) : MV → Bool
  | .own k => Nat.blt k nk
  | .loc k _ _ => Nat.blt k nk
  | .win k _ _ => Nat.blt k nk
  | .tup _ => false
  | _ => true
def refsB (nk : Nat) : List (Nat × MV) → Bool
  | [] => true
  | (_, m) :: r => m.keyB nk && refsB nk r

structure Le (st st' : St) : Prop where
  n : st'.n = st.n
  t : LeT st st'.t
  rows : LeR st.rows st'.rows
  keys : (Nat.blt 0 st'.nk && keysB st'.nk st'.rows) = true
  refs : refsB st'.nk st'.t = true
  x : ∀ b o, st'.x b = some o → st.x b = some o

theorem LeT.get {st : St} : ∀ (l : List (Nat × MV)), LeT st l → ∀ t m, look l t = some m → st.get t = m
  | [], _, t, m, h => by cases h
  | (k, x) :: l, hl, t, m, h => by
    simp only [look] at h
    cases hb : Nat.beq k t with
    | true => rw [hb] at h; cases h; rw [← Nat.eq_of_beq_eq_true hb]; exact hl.1
    | false => rw [hb] at h; exact LeT.get l hl.2 t m h
theorem LeR.get {rows : List (Nat × Row)} : ∀ (l : List (Nat × Row)), LeR rows l → ∀ k r, look l k = some r → look rows k = some r
  | [], _, t, m, h => by cases h
  | (k, x) :: l, hl, t, m, h => by
    simp only [look] at h
    cases hb : Nat.beq k t with
    | true => rw [hb] at h; cases h; rw [← Nat.eq_of_beq_eq_true hb]; exact hl.1
    | false => rw [hb] at h; exact LeR.get l hl.2 t m h
theorem keysB_lt {nk : Nat} : ∀ (l : List (Nat × Row)), keysB nk l = true → ∀ k, liveIn l k → k < nk
  | [], _, k, h => by cases h
  | (k', x) :: l, hl, k, h => by
    simp only [keysB, Bool.and_eq_true] at hl
    unfold liveIn at h
    simp only [look] at h
    cases hb : Nat.beq k' k with
    | true => rw [← Nat.eq_of_beq_eq_true hb]; simpa [Nat.blt_eq] using hl.1
    | false => rw [hb] at h; exact keysB_lt l hl.2 k h
theorem refsB_get {nk : Nat} : ∀ (l : List (Nat × MV)), refsB nk l = true → ∀ t m, look l t = some m → m.keyB nk = true
  | [], _, t, m, h => by cases h
  | (k', x) :: l, hl, t, m, h => by
    simp only [refsB, Bool.and_eq_true] at hl
    simp only [look] at h
    cases hb : Nat.beq k' t with
    | true => rw [hb] at h; cases h; exact hl.1
    | false => rw [hb] at h; exact refsB_get l hl.2 t m h

theorem SR.le {st st' : St} {w0 : Bs} {a : Act} {w : World} (s : SR w0 st a w) (h : Le st st') : SR w0 st' a w := by
  have hkk := h.keys
  simp only [Bool.and_eq_true] at hkk
  obtain ⟨L, cp, sz, ln, s⟩ := s
  have hlive : ∀ k, liveIn st'.rows k → liveIn st.rows k := fun k hk => by
    obtain ⟨r, hr⟩ := Option.isSome_iff_exists.1 hk
    unfold liveIn; rw [LeR.get _ h.rows k r hr]; rfl
  have hx0 : ∀ b, st.x b = none → st'.x b = none := fun b hb => by
    cases hx : st'.x b with
    | none => rfl
    | some o => rw [h.x b o hx] at hb; cases hb
  have hb : ∀ b, stab w0 st.rows st.x L w.heap b → stab w0 st'.rows st'.x L w.heap b ∧ w.heap[b]? = w.heap[b]? := fun b hb => ⟨⟨hb.1, ⟨hb.2.1.1, hx0 b hb.2.1.2⟩, fun k hk => hb.2.2 k (hlive k hk)⟩, rfl⟩
  refine ⟨L, cp, sz, ln, s.defers, by rw [s.size, h.n], fun t => ?_, fun k r hr => ?_, fun k k' hk hk' => s.inj k k' (hlive k hk) (hlive k' hk'), fun k hk => keysB_lt _ hkk.2 k hk, s.below, by simpa [Nat.blt_eq] using hkk.1, s.pin, fun b o hx => let ⟨f1, f2, f3⟩ := s.frag b o (h.x b o hx); ⟨f1, f2, fun k hk => f3 k (hlive k hk)⟩⟩
  · cases hl : look st'.t t with
    | none =>
      have : st'.get t = .p .any := by simp [St.get, hl]
      rw [this]; exact VR.any
    | some m =>
      have hg : st'.get t = m := by simp [St.get, hl]
      have hm := s.tmps t
      rw [LeT.get _ h.t t m hl] at hm
      have hkb := refsB_get _ h.refs t m hl
      rw [hg]
      cases m with
      | p m => exact VR.mono hm hb
      | own k => exact ⟨hm.1, by simpa [MV.keyB, Nat.blt_eq] using hkb⟩
      | loc k i j => exact ⟨hm.1, by simpa [MV.keyB, Nat.blt_eq] using hkb⟩
      | win k i n => exact ⟨hm.1, by simpa [MV.keyB, Nat.blt_eq] using hkb⟩
      | undef => exact hm
      | tup xs => cases hkb
  · have hr' := LeR.get _ h.rows k r hr
    obtain ⟨h1, h2, h3, h4⟩ := s.rows k r hr'
    exact ⟨h1.mono hb rfl, h2, h3, h4⟩

/-- Weaken the state. -/
theorem Wc.weak {code : Code} {st' : St} (h : Le st st') (k : Wc P code Q st') : Wc P code Q st := fun w0 a w Qr hs hq => k w0 a w Qr (hs.le h) hq

def loopQ {α : Type} (I : α → Prop) (S : α → St) (μ : α → Nat) (x : α) (Q : Exit → St → Prop) : Exit → St → Prop
  | .normal, st => ∃ y, I y ∧ μ y < μ x ∧ Le st (S y)
  | e, st => Q e st

theorem exists_min {p : Nat → Prop} (h : ∃ n, p n) : ∃ n, p n ∧ ∀ m, p m → n ≤ m := by
  obtain ⟨n, hn⟩ := h
  induction n using Nat.strongRecOn with
  | _ n ih =>
    by_cases hex : ∃ m, m < n ∧ p m
    · obtain ⟨m, hm, hp⟩ := hex
      exact ih m hm hp
    · exact ⟨n, hn, fun m hm => Nat.not_lt.1 fun hlt => hex ⟨m, hlt, hm⟩⟩

open Classical in
theorem Wc.loop {α : Type} {c : Code} (I : α → Prop) (S : α → St) (μ : α → Nat) (x0 : α) (h0 : I x0) (hle : Le st (S x0))
    (round : ∀ x, I x → Wc P c (loopQ I S μ x Q) (S x)) : Wc P (.loop c) Q st := fun w0 a w Qr hs hq => by
  let R (n : Nat) (a : Act) (w : World) : Prop := ∃ x, I x ∧ SR w0 (S x) a w ∧ μ x = n
  let m (a : Act) (w : World) : Nat := if h : ∃ n, R n a w then Classical.choose (exists_min h) else 0
  refine wp_loop (fun a w => ∃ n, R n a w) m ⟨_, x0, h0, hs.le hle, rfl⟩ fun a w hI => ?_
  have hm : m a w = Classical.choose (exists_min hI) := by simp only [m]; rw [dif_pos hI]
  obtain ⟨⟨x, hx, hsx, hmx⟩, _⟩ := Classical.choose_spec (exists_min hI)
  refine round x hx w0 a w _ hsx fun e st' a' w' hQ hs' => ?_
  cases e with
  | normal =>
    obtain ⟨y, hy, hlt, hle'⟩ := hQ
    have hex : ∃ n, R n a' w' := ⟨_, y, hy, hs'.le hle', rfl⟩
    refine ⟨hex, ?_⟩
    have hm' : m a' w' = Classical.choose (exists_min hex) := by simp only [m]; rw [dif_pos hex]
    rw [hm, hm', ← hmx]
    exact Nat.lt_of_le_of_lt ((Classical.choose_spec (exists_min hex)).2 _ ⟨y, hy, hs'.le hle', rfl⟩) hlt
  | exit id => exact hq _ st' _ _ hQ hs'
  | goto l => exact hq _ st' _ _ hQ hs'
  | ret => exact hq _ st' _ _ hQ hs'
  | panic ch => exact hq _ st' _ _ hQ hs'
  | outgrown => exact hq _ st' _ _ hQ hs'
end

end Go.Lo
namespace Go.Lo
open Go.RowKit

def initT (i : Nat) : List PV → List (Nat × MV)
  | [] => []
  | a :: r => (i, .p a) :: initT (i + 1) r
def init (N : Nat) (args : List PV) : St := { n := N, nk := 1, t := initT 0 args, rows := [] }

def aggOf : List (List PV) → Option PV
  | [cs] => some (.agg cs)
  | _ => none

def resOf (st : St) : ResultVar → Option RV1
  | .tmp t => match st.get t with
    | .p m => some (.p m)
    | .own k => (look st.rows k).map .fresh
    | _ => none
  | .cell t _ => match st.get t with
    | .loc k 0 0 => (look st.rows k).bind fun r => (aggOf r.els).map .p
    | _ => none

def resL (st : St) : List ResultVar → Option RV
  | [] => some []
  | x :: xs => match resOf st x, resL st xs with
    | some r, some rs => some (r :: rs)
    | _, _ => none

def keyOf (st : St) : ResultVar → Option Nat
  | .tmp t => match st.get t with | .own k => some k | _ => none
  | _ => none
def keysL (st : St) (l : List ResultVar) : List Nat := l.filterMap (keyOf st)
def distinctB : List Nat → Bool
  | [] => true
  | k :: r => r.all (fun x => !Nat.beq k x) && distinctB r
/-- The type of a result in a cell is a struct of the row's size. -/
def cellTy (tt : Tr) (st : St) : ResultVar → Bool
  | .tmp _ => true
  | .cell t ty => match st.get t, tt.get ty with
    | .loc k 0 0, some i => i.agg && (match look st.rows k with | some r => Nat.beq r.sz i.sz | none => false)
    | _, _ => false

structure ResOk {P : Program} (tt : Tab P) (rl : List ResultVar) (rs : RV) (st : St) : Prop where
  eq : resL st rl = some rs
  keys : distinctB (keysL st rl) = true
  cells : rl.all (cellTy tt.l st) = true

def Fin {P : Program} (tt : Tab P) (rl : List ResultVar) (rs : RV) : Exit → St → Prop
  | .ret, st => ResOk tt rl rs st
  | .normal, st => ResOk tt rl rs st
  | _, _ => False

theorem look_initT : ∀ (args : List PV) (i t : Nat) (m : MV), look (initT i args) t = some m → i ≤ t ∧ ∃ x, args[t - i]? = some x ∧ m = .p x
  | [], i, t, m, h => by cases h
  | a :: args, i, t, m, h => by
    simp only [initT, look] at h
    cases hb : Nat.beq i t with
    | true =>
      rw [hb] at h; cases h
      have := Nat.eq_of_beq_eq_true hb; subst this
      exact ⟨Nat.le_refl _, a, by simp, rfl⟩
    | false =>
      rw [hb] at h
      obtain ⟨h1, x, h2, h3⟩ := look_initT args (i + 1) t m h
      exact ⟨by omega, x, by rw [show t - i = (t - (i + 1)) + 1 by omega]; simpa using h2, h3⟩

theorem SR.init {w : World} {S : Nat → Prop} {N : Nat} {args : List PV} {vals : Array Value} (hA : ArgsR w S args vals) (hN : args.length ≤ N) :
    SR ⟨w, S, fun _ => False, none⟩ (init N args) { tmps := vals ++ Array.replicate (N - vals.size) Go.undef, defers := [] } w := by
  obtain ⟨hl, hall⟩ := hA
  have hno : ∀ k, ¬ liveIn (Lo.init N args).rows k := fun k hk => by simp [Lo.init, liveIn, look] at hk
  refine ⟨fun _ => 0, fun _ => 0, fun _ => 0, fun _ => 0, rfl, (by simp [Lo.init, ← hl]; omega), fun t => ?_, (fun k r hr => by simp [Lo.init, look] at hr), (fun k k' hk => (hno k hk).elim), (fun k hk => (hno k hk).elim), ⟨rfl, rfl, rfl, Nat.le_refl _, fun _ _ _ => rfl⟩, Nat.one_pos, (fun b c h => by cases h), (fun b o h => by cases h)⟩
  cases h : look (initT 0 args) t with
  | none =>
    have : (Lo.init N args).get t = .p .any := by simp [St.get, Lo.init, h]
    rw [this]; exact VR.any
  | some m =>
    obtain ⟨_, x, hx, rfl⟩ := look_initT _ _ _ _ h
    have hg : (Lo.init N args).get t = .p x := by simp [St.get, Lo.init, h]
    simp only [Nat.sub_zero] at hx
    have hlt : t < vals.size := by rw [← hl]; exact (List.getElem?_eq_some_iff.1 hx).1
    rw [hg]
    have hv := hall t x vals[t] hx (by simp [hlt])
    have : (vals ++ Array.replicate (N - vals.size) Go.undef).getD t Go.undef = vals[t] := by
      simp [Array.getElem?_append, hlt]
    rw [this]
    exact hv.mono fun b hb => ⟨⟨hb.1, ⟨.inl hb.2, rfl⟩, fun k hk => (hno k hk).elim⟩, rfl⟩

section
variable {P : Program} {st : St} {w0 : Bs} {a : Act} {w : World} {L cp sz ln : Nat → Nat}

/-- One result. -/
theorem SRL.res (tt : Tab P) (s : SRL w0 st a w L cp sz ln) {x : ResultVar} {r : RV1} (h : resOf st x = some r) (hc : cellTy tt.l st x = true) :
    ∃ v, (match x with | .tmp t => (Pure.pure (a.tmps.getD t Go.undef) : Sem Value) | .cell ad t => do loadVar t (← asAddr (a.tmps.getD ad Go.undef))).run P w = .ok v w ∧
      (match r with | .p m => VR w.heap (stab w0 st.rows st.x L w.heap) m v | .fresh row => ∃ k, keyOf st x = some k ∧ look st.rows k = some row ∧ v = .slice (some ⟨L k, 0, none⟩) row.els.length (cp k)) := by
  cases x with
  | tmp t =>
    refine ⟨_, rfl, ?_⟩
    have hm := s.tmps t
    simp only [resOf] at h
    cases hg : st.get t with
    | p m =>
      rw [hg] at h hm; cases h
      exact hm
    | own k =>
      rw [hg] at h hm
      simp only [Option.map_eq_some_iff] at h
      obtain ⟨row, hrow, rfl⟩ := h
      refine ⟨k, by simp [keyOf, hg], hrow, ?_⟩
      rw [← (s.rows k row hrow).2.2.2]; exact hm.1
    | loc k i j => rw [hg] at h; cases h
    | win k i j => rw [hg] at h; cases h
    | undef => rw [hg] at h; cases h
    | tup xs => rw [hg] at h; cases h
  | cell t ty =>
    simp only [resOf] at h
    simp only [cellTy] at hc
    cases hg : st.get t with
    | loc k i j =>
      rw [hg] at h hc
      match i, j, h, hc, hg with
      | 0, 0, h, hc, hg =>
        simp only [Option.bind_eq_some_iff, Option.map_eq_some_iff] at h
        obtain ⟨row, hrow, m, hm, rfl⟩ := h
        cases hti : tt.l.get ty with
        | none => rw [hti] at hc; cases hc
        | some ti =>
          rw [hti] at hc
          simp only [hrow, Bool.and_eq_true] at hc
          obtain ⟨hagg, hsz⟩ := hc
          have hsz' : row.sz = ti.sz := Nat.eq_of_beq_eq_true hsz
          obtain ⟨cs, hcs, rfl⟩ : ∃ cs, row.els = [cs] ∧ m = .agg cs := by
            cases he : row.els with
            | nil => rw [he] at hm; cases hm
            | cons e es =>
              cases es with
              | nil => rw [he] at hm; cases hm; exact ⟨e, rfl, rfl⟩
              | cons _ _ => rw [he] at hm; cases hm
          obtain ⟨⟨C, h1, h2, h3, h4, h5, h6⟩, _, hszk, hln⟩ := s.rows k row hrow
          have hlen : cs.length = row.sz := h5 cs (by rw [hcs]; simp)
          have hv := (s.tmps t); rw [hg] at hv
          have hval : a.tmps.getD t Go.undef = .pointer (some ⟨L k, 0, none⟩) := by simpa using hv.1
          have hC : ∀ (j : Nat) m, cs[j]? = some m → ∃ u, C[j]? = some u ∧ VR w.heap (stab w0 st.rows st.x L w.heap) m u := fun j m hm => by
            obtain ⟨u, hu, _, hvr⟩ := h6 0 cs j m (by rw [hcs]; rfl) hm
            exact ⟨u, by simpa using hu, hvr⟩
          have hCl : cs.length ≤ C.size := by
            rw [h2, hlen]
            have : 1 ≤ cp k := by rw [hcs] at h3; exact h3
            exact Nat.le_mul_of_pos_left _ this
          refine ⟨.agg (C.toList.take cs.length).toArray, ?_, VR.agg (by simp; omega) (fun j c u hc hu => ?_)⟩
          · have hld := loadAt_agg (P := P) tt hti hagg (b := L k) (o := 0) (w := w) (us := C.toList.take cs.length) (by simp; omega) (fun j u hj => by
              rw [cell?_eq]
              simp only [hcell, h1, Nat.zero_add]
              rw [List.getElem?_take] at hj
              split at hj
              · simpa using hj
              · cases hj)
            simp only [hval]
            simpa [Instr.loadAt, Instr.sureAddr, asAddr] using hld
          · obtain ⟨u', hu', hvr⟩ := hC j c hc
            have hjl : j < cs.length := (List.getElem?_eq_some_iff.1 hc).1
            have : u' = u := by
              rw [List.getElem?_toArray, List.getElem?_take, if_pos hjl] at hu
              have : C[j]? = some u := by simpa using hu
              rw [hu'] at this; exact Option.some.inj this
            subst this; exact hvr
      | i + 1, j, h, hc, hg => cases h
      | 0, j + 1, h, hc, hg => cases h
    | p m => rw [hg] at h; cases h
    | own k => rw [hg] at h; cases h
    | win k i j => rw [hg] at h; cases h
    | undef => rw [hg] at h; cases h
    | tup xs => rw [hg] at h; cases h
end

def res1 (a : Act) : ResultVar → Sem Value
  | .tmp t => Pure.pure (a.tmps.getD t Go.undef)
  | .cell ad t => do loadVar t (← asAddr (a.tmps.getD ad Go.undef))

theorem run_mapM_res {P : Program} (a : Act) (w : World) : ∀ (rl : List ResultVar) (vs : List Value), rl.length = vs.length → (∀ (i : Nat) x v, rl[i]? = some x → vs[i]? = some v → (res1 a x).run P w = .ok v w) →
    (rl.mapM (res1 a)).run P w = .ok vs w
  | [], vs, hl, _ => by
    have : vs = [] := List.eq_nil_of_length_eq_zero (by simpa using hl.symm)
    subst this; simp
  | x :: rl, [], hl, _ => by simp at hl
  | x :: rl, v :: vs, hl, h => by
    have h0 := h 0 x v rfl rfl
    have ih := run_mapM_res a w rl vs (by simpa using hl) (fun i x v hx hv => h (i + 1) x v (by simpa using hx) (by simpa using hv))
    simp [List.mapM_cons, h0, ih]

def packV : List Value → Value
  | [v] => v
  | vs => .tuple vs.toArray

theorem results_run {P : Program} {fn : Func} {rl : List ResultVar} (hr : fn.results = rl.toArray) {a : Act} {w : World} {vs : List Value} (hl : rl.length = vs.length)
    (h : ∀ (i : Nat) x v, rl[i]? = some x → vs[i]? = some v → (res1 a x).run P w = .ok v w) :
    (results fn a.tmps).run P w = .ok (packV vs) w := by
  have hm := run_mapM_res (P := P) a w rl vs hl h
  have he : results fn a.tmps = (rl.toArray.mapM (res1 a)) >>= fun vs => Pure.pure (if h : vs.size = 1 then vs[0] else .tuple vs) := by
    have hf : res1 a = (fun | .tmp t => Pure.pure (a.tmps.getD t Go.undef) | .cell ad t => do loadVar t (← asAddr (a.tmps.getD ad Go.undef))) := by
      funext x; cases x <;> rfl
    unfold results
    rw [hr, hf]
    rfl
  rw [he]
  rw [List.mapM_toArray]
  simp only [Sem.run_bind, Sem.run_map, hm, Result.andThen_ok, Sem.run_pure]
  congr 1
  split
  · rename_i h1
    obtain ⟨v, hv⟩ := List.length_eq_one_iff.1 (by simpa using h1)
    subst hv; rfl
  · rename_i h1
    unfold packV
    split
    · rename_i v; simp at h1
    · rfl

theorem resL_get {st : St} : ∀ (rl : List ResultVar) (rs : RV), resL st rl = some rs → rl.length = rs.length ∧ ∀ (i : Nat) x, rl[i]? = some x → ∃ r, rs[i]? = some r ∧ resOf st x = some r
  | [], rs, h => by cases h; exact ⟨rfl, fun i x hx => by cases hx⟩
  | x :: rl, rs, h => by
    simp only [resL] at h
    split at h
    · rename_i r rs' hr hrs
      cases h
      obtain ⟨hl, hall⟩ := resL_get rl rs' hrs
      refine ⟨by simp [hl], fun i y hy => ?_⟩
      cases i with
      | zero => simp at hy; subst hy; exact ⟨r, rfl, hr⟩
      | succ i => obtain ⟨r', h1, h2⟩ := hall i y (by simpa using hy); exact ⟨r', by simpa using h1, h2⟩
    · cases h

theorem distinct_get {st : St} : ∀ (rl : List ResultVar), distinctB (keysL st rl) = true → ∀ (i j : Nat) x y k, rl[i]? = some x → rl[j]? = some y → keyOf st x = some k → keyOf st y = some k → i = j
  | [], _, i, j, x, y, k, hx, hy, _, _ => by cases hx
  | z :: rl, hd, i, j, x, y, k, hx, hy, hkx, hky => by
    have hmem : ∀ (n : Nat) u, rl[n]? = some u → keyOf st u = some k → k ∈ keysL st rl := fun n u hu hk => List.mem_filterMap.2 ⟨u, List.mem_of_getElem? hu, hk⟩
    have hrest : distinctB (keysL st rl) = true := by
      simp only [keysL, List.filterMap_cons] at hd
      cases hz : keyOf st z with
      | none => rw [hz] at hd; exact hd
      | some kz => rw [hz] at hd; simp only [distinctB, Bool.and_eq_true] at hd; exact hd.2
    have hno : keyOf st z = some k → k ∈ keysL st rl → False := fun hz hm => by
      simp only [keysL, List.filterMap_cons, hz, distinctB, Bool.and_eq_true, List.all_eq_true] at hd
      have := hd.1 k hm
      simp [Nat.beq_refl] at this
    match i, j with
    | 0, 0 => rfl
    | 0, j + 1 => simp at hx; subst hx; exact (hno hkx (hmem j y (by simpa using hy) hky)).elim
    | i + 1, 0 => simp at hy; subst hy; exact (hno hky (hmem i x (by simpa using hx) hkx)).elim
    | i + 1, j + 1 => have := distinct_get rl hrest i j x y k (by simpa using hx) (by simpa using hy) hkx hky; omega

theorem Fin.post {P : Program} {tt : Tab P} {fn : Func} {rl : List ResultVar} (hr : fn.results = rl.toArray) {rs : RV} {st : St} {a : Act} {w : World} (h : ResOk tt rl rs st) {W : World} {S : Nat → Prop} (s : SR ⟨W, S, fun _ => False, none⟩ st a w) :
    a.defers = [] ∧ ∃ v, (results fn a.tmps).run P w = .ok v w ∧ RR W w S rs v ∧ Ext W w := by
  obtain ⟨L, cp, sz, ln, s⟩ := s
  obtain ⟨hlen, hget⟩ := resL_get rl rs h.eq
  have hex : ∀ (i : Nat), i < rl.length → ∃ v, (∀ x, rl[i]? = some x → (res1 a x).run P w = .ok v w) ∧ ∀ x r, rl[i]? = some x → rs[i]? = some r →
      (match r with | .p m => VR w.heap (stab ⟨W, S, fun _ => False, none⟩ st.rows st.x L w.heap) m v | .fresh row => ∃ k, keyOf st x = some k ∧ look st.rows k = some row ∧ v = .slice (some ⟨L k, 0, none⟩) row.els.length (cp k)) := by
    intro i hi
    obtain ⟨r, hr1, hr2⟩ := hget i rl[i] (by simp [hi])
    obtain ⟨v, hv1, hv2⟩ := s.res tt hr2 (List.all_eq_true.1 h.cells _ (List.getElem_mem hi))
    refine ⟨v, fun x hx => ?_, fun x r' hx hr' => ?_⟩
    · have : rl[i] = x := by simpa [hi] using hx
      subst this
      rw [← hv1]; unfold res1; split <;> rfl
    · have : rl[i] = x := by simpa [hi] using hx
      subst this
      rw [hr1] at hr'; cases hr'
      exact hv2
  let vAt (i : Nat) : Value := if hi : i < rl.length then Classical.choose (hex i hi) else Go.undef
  have hvAt : ∀ (i : Nat) (hi : i < rl.length), (∀ x, rl[i]? = some x → (res1 a x).run P w = .ok (vAt i) w) ∧ ∀ x r, rl[i]? = some x → rs[i]? = some r →
      (match r with | .p m => VR w.heap (stab ⟨W, S, fun _ => False, none⟩ st.rows st.x L w.heap) m (vAt i) | .fresh row => ∃ k, keyOf st x = some k ∧ look st.rows k = some row ∧ vAt i = .slice (some ⟨L k, 0, none⟩) row.els.length (cp k)) := fun i hi => by
    have := Classical.choose_spec (hex i hi)
    simp only [vAt, hi, dif_pos]
    exact this
  have hrun := results_run (P := P) hr (a := a) (w := w) (vs := (List.range rl.length).map vAt) (by simp) (fun i x v hx hv => by
    have hi : i < rl.length := (List.getElem?_eq_some_iff.1 hx).1
    have : vAt i = v := by simpa [hi] using hv
    subst this
    exact (hvAt i hi).1 x hx)
  refine ⟨s.defers, _, hrun, ?_, ⟨s.below.os, s.below.tape, s.below.output, s.below.size, fun b hb => s.below.block b hb (fun h => h)⟩⟩
  let kAt (i : Nat) : Nat := ((rl[i]?).bind (keyOf st)).getD 0
  have hfr : ∀ (i : Nat) row, rs[i]? = some (.fresh row) → look st.rows (kAt i) = some row ∧ vAt i = .slice (some ⟨L (kAt i), 0, none⟩) row.els.length (cp (kAt i)) ∧ ∃ x, rl[i]? = some x ∧ keyOf st x = some (kAt i) := by
    intro i row hi
    have hi' : i < rl.length := by rw [hlen]; exact (List.getElem?_eq_some_iff.1 hi).1
    have hx : rl[i]? = some rl[i] := by simp [hi']
    obtain ⟨k, hk1, hk2, hk3⟩ := (hvAt i hi').2 _ _ hx hi
    have : kAt i = k := by simp only [kAt, hx, Option.bind_some, hk1, Option.getD_some]
    rw [this]
    exact ⟨hk2, hk3, _, hx, hk1⟩
  have hst : ∀ b, stab ⟨W, S, fun _ => False, none⟩ st.rows st.x L w.heap b → newS W w S rs (fun i => L (kAt i)) b ∧ w.heap[b]? = w.heap[b]? := fun b hb =>
    ⟨⟨hb.1, hb.2.1.1, fun i ⟨r, hi⟩ => hb.2.2 _ (by unfold liveIn; rw [(hfr i r hi).1]; rfl)⟩, rfl⟩
  have hR1 : ∀ (i : Nat) r, rs[i]? = some r → R1 w.heap (newS W w S rs (fun i => L (kAt i))) (fun i => L (kAt i)) (fun i => cp (kAt i)) i r (vAt i) := fun i r hi => by
    have hi' : i < rl.length := by rw [hlen]; exact (List.getElem?_eq_some_iff.1 hi).1
    cases r with
    | p m =>
      have h9 : VR w.heap (stab ⟨W, S, fun _ => False, none⟩ st.rows st.x L w.heap) m (vAt i) := (hvAt i hi').2 rl[i] _ (by simp [hi']) hi
      exact VR.mono h9 hst
    | fresh row => exact (hfr i row hi).2.1
  refine ⟨fun i => L (kAt i), fun i => cp (kAt i), fun i r hi => ?_, fun i j hi hj he => ?_, fun r hrs => ?_, fun hne => ?_⟩
  · obtain ⟨h1, _, _⟩ := hfr i r hi
    obtain ⟨h2, h3, _⟩ := s.rows _ _ h1
    exact ⟨h3.resolve_right (fun h => h.2), h2.mono hst rfl⟩
  · obtain ⟨ri, hi⟩ := hi
    obtain ⟨rj, hj⟩ := hj
    obtain ⟨a1, _, x, hx, hkx⟩ := hfr i ri hi
    obtain ⟨b1, _, y, hy, hky⟩ := hfr j rj hj
    have hk := s.inj _ _ (show liveIn st.rows (kAt i) by unfold liveIn; rw [a1]; rfl) (show liveIn st.rows (kAt j) by unfold liveIn; rw [b1]; rfl) he
    rw [← hk] at hky
    exact distinct_get rl h.keys i j x y _ hx hy hkx hky
  · subst hrs
    have hl1 : rl.length = 1 := by rw [hlen]; rfl
    have h0 := hR1 0 r rfl
    have hp : packV ((List.range rl.length).map vAt) = vAt 0 := by rw [hl1]; rfl
    rw [hp]
    exact h0
  · refine ⟨((List.range rl.length).map vAt).toArray, ?_, by simp [hlen], fun i r u hi hu => ?_⟩
    · have hlen2 : ((List.range rl.length).map vAt).length ≠ 1 := by simpa [hlen] using hne
      generalize (List.range rl.length).map vAt = vs at hlen2
      unfold packV
      split
      · simp at hlen2
      · rfl
    · have hi' : i < rl.length := by rw [hlen]; exact (List.getElem?_eq_some_iff.1 hi).1
      have : vAt i = u := by simpa [hi'] using hu
      subst this
      exact hR1 i r hi

theorem Holds.mk {P : Program} {f : Nat} {fn : Func} {code : Code} {N : Nat} {rl : List ResultVar} {c : Ct} (tt : Tab P) (hf : P.funcs[f]? = some fn) (hb : fn.body = some code) (hn : fn.ntmps = N) (hr : fn.results = rl.toArray)
    (hname : (fn.name == "runtime.NumGoroutine") = false) (h : ∀ args K, c args K → args.length ≤ N ∧ ∃ rs, K rs ∧ Wc P code (Fin tt rl rs) (init N args)) : Holds P f c := by
  refine ⟨⟨fn, hf, hname, by rw [hb]; rfl⟩, fun args K hc => ?_⟩
  obtain ⟨hN, rs, hK, hW⟩ := h args K hc
  refine ⟨rs, fun w S vals hA => ?_, hK⟩
  refine calls_of_wp hf hb ?_
  rw [hn]
  refine hW _ _ w _ (SR.init hA hN) fun e st' a' w' hQ hs => ?_
  cases e with
  | ret =>
    obtain ⟨h1, v, h2, h3, h4⟩ := Fin.post (fn := fn) hr hQ hs
    exact ⟨h1, v, h2, v, rfl, h3, h4⟩
  | normal =>
    obtain ⟨h1, v, h2, h3, h4⟩ := Fin.post (fn := fn) hr hQ hs
    exact ⟨h1, v, h2, v, rfl, h3, h4⟩
  | exit id => exact hQ.elim
  | goto l => exact hQ.elim
  | panic ch => exact hQ.elim
  | outgrown => exact hQ.elim

/-! ### Ends -/
section
variable {P : Program} {tt : Tab P} {rl : List ResultVar} {st : St}
def allSc : RV → Bool
  | [] => true
  | .p m :: r => m.val.isSome && allSc r
  | .fresh _ :: _ => false
theorem allSc_ok : ∀ (rs : RV), allSc rs = true → ∀ r ∈ rs, rv1Ok r
  | [], _, r, h => by cases h
  | .p m :: rs, ha, r, h => by
    simp only [allSc, Bool.and_eq_true] at ha
    cases h with
    | head => exact ha.1
    | tail _ h => exact allSc_ok rs ha.2 r h
  | .fresh _ :: rs, ha, r, h => by cases ha
theorem fin_p {rs' rs : RV} (he : resL st rl = some rs') (e : rs' = rs) (hk : distinctB (keysL st rl) = true) (hc : rl.all (cellTy tt.l st) = true) : ResOk tt rl rs st := by
  subst e; exact ⟨he, hk, hc⟩
end

end Go.Lo
