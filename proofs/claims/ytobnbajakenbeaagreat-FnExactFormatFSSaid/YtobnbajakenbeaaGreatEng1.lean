/- A walk over the code of a program, as a proposition whose rules are equations, and that it is sound. No condition. -/
import Derived.Deep.Quiet
import Derived.WalkKit
set_option linter.all false
set_option linter.defProp false
/- The engine, part A: abstract values, memory relation, states. -/
set_option linter.unusedVariables false
set_option linter.unusedSimpArgs false
namespace Go.Eng
open Go

/-- A cell of a row that is read or owned: a flat value, or a slice whose elements are flat. -/
inductive Cell where
  | v (x : Value)
  | s (e : TypeId) (E : Nat) (rows : List (List Value))

/-- Abstract values. -/
inductive AV where
  | v (x : Value)
  | rd (E : Nat) (rows : List (List Cell))
  | rp (row : List Cell) (j : Nat)
  | rq (cells : List AV) (j : Nat)
  | sl (k E lo n : Nat)
  | ptr (k E i j : Nat)
  | sub (k i j E lo n : Nat)
  | subp (k i j E l q : Nat)
  | agg (xs : List AV)
  | tup (xs : List AV)
  | fn (f : FuncId) (cap : List AV)
  | bad

inductive Chunk where
  | box (e : TypeId) (cells : List AV)
  | row (e : TypeId) (E : Nat) (rows : List (List Cell))
  /-- No chunk, but a fact: the block of k' is the one that 'ob' names, and it has at least zz cells. -/
  | pin (k' : Nat) (ob : Option Nat) (zz : Nat)
  /-- A fact too: the values us are what xs say. -/
  | fact (xs : List AV) (us : List Value)

inductive Lab where
  | root (k : Nat)
  | sub (k i j : Nat)
  deriving DecidableEq

/-- What the memory relation looks at: the read-only blocks, the places of what is owned, the blocks' sizes. -/
structure Mem where
  r : Nat → Option Obj
  b : Lab → Option Nat
  z : Nat → Nat

def cellIn (r : Nat → Option Obj) (b o : Nat) : Option Value :=
  match r b with
  | some (.cells c _ _) => c[o]?
  | _ => none

/-- A slice of flat elements, read. -/
def RdFlat (r : Nat → Option Obj) (E : Nat) (rows : List (List Value)) (u : Value) : Prop :=
  ∃ A c, u = .slice A rows.length c ∧ rows.length ≤ c ∧ ∀ i row, rows[i]? = some row → ∃ b o, A = some ⟨b, o, none⟩ ∧ row.length = E ∧
    ∀ j x, row[j]? = some x → cellIn r b (o + i * E + j) = some x
def RdCell (r : Nat → Option Obj) : Cell → Value → Prop
  | .v x, u => u = x
  | .s _ E rows, u => RdFlat r E rows u
def RdRow (r : Nat → Option Obj) (E : Nat) (rows : List (List Cell)) (u : Value) : Prop :=
  ∃ A c, u = .slice A rows.length c ∧ rows.length ≤ c ∧ ∀ i row, rows[i]? = some row → ∃ b o, A = some ⟨b, o, none⟩ ∧ row.length = E ∧
    ∀ j x, row[j]? = some x → ∃ y, cellIn r b (o + i * E + j) = some y ∧ RdCell r x y

/-- A slice of what is owned: from element 'lo' on, n elements. -/
def OwnSl (ob : Option Nat) (z : Nat → Nat) (E lo n : Nat) (u : Value) : Prop :=
  ∃ A cap, u = .slice A n cap ∧ n ≤ cap ∧ ((∃ b, ob = some b ∧ A = some ⟨b, lo * E, none⟩ ∧ (lo + cap) * E ≤ z b) ∨ (n = 0 ∧ cap = 0))

mutual
def Ok (m : Mem) : AV → Value → Prop
  | .v x, u => u = x
  | .rd E rows, u => RdRow m.r E rows u
  | .rp row j, u => ∃ b o, u = .pointer (some ⟨b, o + j, none⟩) ∧ ∀ i c, row[i]? = some c → ∃ y, cellIn m.r b (o + i) = some y ∧ RdCell m.r c y
  | .rq cells j, u => ∃ b o us, u = .pointer (some ⟨b, o + j, none⟩) ∧ (∀ i y, us[i]? = some y → cellIn m.r b (o + i) = some y) ∧ Oks m cells us
  | .sl k E lo n, u => OwnSl (m.b (.root k)) m.z E lo n u
  | .ptr k E i j, u => ∃ b, m.b (.root k) = some b ∧ u = .pointer (some ⟨b, i * E + j, none⟩)
  | .sub k i j E lo n, u => OwnSl (m.b (.sub k i j)) m.z E lo n u
  | .subp k i j E l q, u => ∃ b, m.b (.sub k i j) = some b ∧ u = .pointer (some ⟨b, l * E + q, none⟩)
  | .agg xs, u => ∃ us, u = .agg us.toArray ∧ Oks m xs us
  | .tup xs, u => ∃ us, u = .tuple us.toArray ∧ Oks m xs us
  | .fn f cap, u => ∃ us, u = .func (.func f) #[] us.toArray ∧ Oks m cap us
  | .bad, _ => True
def Oks (m : Mem) : List AV → List Value → Prop
  | [], us => us = []
  | x :: xs, us => ∃ u vs, us = u :: vs ∧ Ok m x u ∧ Oks m xs vs
end

/-- What lies at one place may be looked at from another memory: more is owned, blocks have grown. -/
structure Mem.le (m m' : Mem) : Prop where
  r : m'.r = m.r
  b : ∀ l b, m.b l = some b → m'.b l = some b
  z : ∀ l b, m.b l = some b → m.z b ≤ m'.z b

theorem OwnSl.mono {ob ob' : Option Nat} {z z' : Nat → Nat} {E lo n : Nat} {u : Value} (h : OwnSl ob z E lo n u) (hb : ∀ b, ob = some b → ob' = some b) (hz : ∀ b, ob = some b → z b ≤ z' b) : OwnSl ob' z' E lo n u := by
  obtain ⟨A, cap, hu, hn, h⟩ := h
  refine ⟨A, cap, hu, hn, ?_⟩
  rcases h with ⟨b, h1, h2, h3⟩ | h
  · exact .inl ⟨b, hb b h1, h2, Nat.le_trans h3 (hz b h1)⟩
  · exact .inr h

mutual
theorem Ok.mono {m m' : Mem} (h : m.le m') : ∀ (x : AV) (u : Value), Ok m x u → Ok m' x u
  | .v _, _, hx => by simpa only [Ok] using hx
  | .rd .., _, hx => by simp only [Ok] at hx ⊢; rw [h.r]; exact hx
  | .rp .., _, hx => by simp only [Ok] at hx ⊢; rw [h.r]; exact hx
  | .rq xs _, _, hx => by simp only [Ok] at hx ⊢; obtain ⟨b, o, us, h1, h2, h3⟩ := hx; exact ⟨b, o, us, h1, by rw [h.r]; exact h2, Oks.mono h xs us h3⟩
  | .sl .., _, hx => by simp only [Ok] at hx ⊢; exact hx.mono (h.b _) (h.z _)
  | .ptr .., _, hx => by simp only [Ok] at hx ⊢; obtain ⟨b, h1, h2⟩ := hx; exact ⟨b, h.b _ _ h1, h2⟩
  | .sub .., _, hx => by simp only [Ok] at hx ⊢; exact hx.mono (h.b _) (h.z _)
  | .subp .., _, hx => by simp only [Ok] at hx ⊢; obtain ⟨b, h1, h2⟩ := hx; exact ⟨b, h.b _ _ h1, h2⟩
  | .agg xs, _, hx => by simp only [Ok] at hx ⊢; obtain ⟨us, h1, h2⟩ := hx; exact ⟨us, h1, Oks.mono h xs us h2⟩
  | .tup xs, _, hx => by simp only [Ok] at hx ⊢; obtain ⟨us, h1, h2⟩ := hx; exact ⟨us, h1, Oks.mono h xs us h2⟩
  | .fn _ xs, _, hx => by simp only [Ok] at hx ⊢; obtain ⟨us, h1, h2⟩ := hx; exact ⟨us, h1, Oks.mono h xs us h2⟩
  | .bad, _, _ => by simp only [Ok]
theorem Oks.mono {m m' : Mem} (h : m.le m') : ∀ (xs : List AV) (us : List Value), Oks m xs us → Oks m' xs us
  | [], _, hx => by simpa only [Oks] using hx
  | x :: xs, _, hx => by simp only [Oks] at hx ⊢; obtain ⟨u, vs, h1, h2, h3⟩ := hx; exact ⟨u, vs, h1, Ok.mono h x u h2, Oks.mono h xs vs h3⟩
end

theorem Oks.length {m : Mem} : ∀ {xs : List AV} {us : List Value}, Oks m xs us → us.length = xs.length
  | [], _, h => by simp only [Oks] at h; simp [h]
  | x :: xs, _, h => by simp only [Oks] at h; obtain ⟨u, vs, rfl, _, h⟩ := h; simp [h.length]
theorem Oks.get {m : Mem} : ∀ {xs : List AV} {us : List Value}, Oks m xs us → ∀ {i : Nat} {x : AV}, xs[i]? = some x → ∃ u, us[i]? = some u ∧ Ok m x u
  | [], _, _, i, x, hi => by simp at hi
  | y :: xs, _, h, i, x, hi => by
    simp only [Oks] at h
    obtain ⟨u, vs, rfl, h1, h2⟩ := h
    cases i with
    | zero => simp at hi; subst hi; exact ⟨u, rfl, h1⟩
    | succ i => simp at hi; simpa using h2.get hi
theorem Oks.of_get {m : Mem} : ∀ {xs : List AV} {us : List Value}, us.length = xs.length → (∀ (i : Nat) (x : AV) (u : Value), xs[i]? = some x → us[i]? = some u → Ok m x u) → Oks m xs us
  | [], us, hl, _ => by simp only [Oks]; exact List.eq_nil_of_length_eq_zero (by simpa using hl)
  | x :: xs, [], hl, _ => by simp at hl
  | x :: xs, u :: us, hl, h => by
    simp only [Oks]
    exact ⟨u, us, rfl, h 0 x u rfl rfl, Oks.of_get (by simpa using hl) fun i y w hy hw => h (i + 1) y w (by simpa using hy) (by simpa using hw)⟩

/-! ### Chunks -/
def Free (vs : Array Value) (fr : Nat × Nat) : Prop := ∀ i, i < vs.size → ¬ (fr.1 ≤ i ∧ i < fr.2)
theorem Free.zero (vs : Array Value) : Free vs (0, 0) := fun i _ h => by simp at h

def OneV : Value → Prop | .agg _ => False | .tuple _ => False | _ => True

def NestOk (m : Mem) (w : World) (l : Lab) (e : TypeId) (E : Nat) (rows : List (List Value)) : Prop :=
  (m.b l = none ∧ rows = []) ∨ ∃ b vs fr, m.b l = some b ∧ w.heap[b]? = some (.cells vs e fr) ∧ Free vs fr ∧ rows.length * E ≤ vs.size ∧
    ∀ i row, rows[i]? = some row → row.length = E ∧ ∀ j x, row[j]? = some x → vs[i * E + j]? = some x
def CellOk (m : Mem) (w : World) (l : Lab) : Cell → Value → Prop
  | .v x, y => y = x
  | .s e E rows, y => OwnSl (m.b l) m.z E 0 rows.length y ∧ NestOk m w l e E rows

def ChunkOk (m : Mem) (w : World) (k : Nat) : Chunk → Prop
  | .box e cells => ∃ b vs fr, m.b (.root k) = some b ∧ w.heap[b]? = some (.cells vs e fr) ∧ Free vs fr ∧ Oks m cells vs.toList
  | .row e E rows => (m.b (.root k) = none ∧ rows = []) ∨ ∃ b vs fr, m.b (.root k) = some b ∧ w.heap[b]? = some (.cells vs e fr) ∧ Free vs fr ∧ rows.length * E ≤ vs.size ∧
      ∀ i row, rows[i]? = some row → row.length = E ∧ ∀ j c, row[j]? = some c → ∃ y, vs[i * E + j]? = some y ∧ CellOk m w (.sub k i j) c y
  | .pin k' ob zz => ∀ b, ob = some b → m.b (.root k') = some b ∧ zz ≤ m.z b
  | .fact xs us => Oks m xs us

def look {α : Type} (d : α) : List (Nat × α) → Nat → α
  | [], _ => d
  | (k, v) :: r, i => if k = i then v else look d r i
def look? {α : Type} : List (Nat × α) → Nat → Option α
  | [], _ => none
  | (k, v) :: r, i => if k = i then some v else look? r i

abbrev Heap := List (Nat × Chunk)

def bsz (w : World) (b : Nat) : Nat := match w.heap[b]? with | some (.cells c _ _) => c.size | _ => 0

structure Core (m : Mem) (w : World) (h : Heap) (nk : Nat) : Prop where
  inj : ∀ l l' b, m.b l = some b → m.b l' = some b → l = l'
  lt : ∀ l b, m.b l = some b → b < w.heap.size
  z : ∀ b, m.z b = bsz w b
  ro : ∀ b o, m.r b = some o → w.heap[b]? = some o ∧ ∀ l, m.b l ≠ some b
  new : ∀ k, nk ≤ k → m.b (.root k) = none ∧ ∀ i j, m.b (.sub k i j) = none
  chunk : ∀ k c, look? h k = some c → ChunkOk m w k c

/-- What a call has left of the world that it began in: 'own0': what it may write. -/
structure Frm (w0 : World) (own0 : Nat → Prop) (w : World) : Prop where
  size : w0.heap.size ≤ w.heap.size
  os : w.os = w0.os
  tape : w.tape = w0.tape
  output : w.output = w0.output
  block : ∀ b, b < w0.heap.size → ¬ own0 b → w.heap[b]? = w0.heap[b]?

theorem Frm.refl (w : World) (own : Nat → Prop) : Frm w own w := ⟨Nat.le_refl _, rfl, rfl, rfl, fun _ _ _ => rfl⟩
theorem Frm.below {w0 w w' : World} {own : Nat → Prop} (h : Frm w0 own w) (hb : RowKit.Below w.heap.size w w') : Frm w0 own w' :=
  ⟨Nat.le_trans h.size hb.size, hb.os.trans h.os, hb.tape.trans h.tape, hb.output.trans h.output, fun b h1 h2 => (hb.block b (Nat.lt_of_lt_of_le h1 h.size)).trans (h.block b h1 h2)⟩

structure St where
  t : List (Nat × Bool × AV)
  h : Heap
  nk : Nat
  N : Nat

/-- The fixed part of a walk: the world in which the call began, what it may write, what it reads. -/
structure Base where
  w0 : World
  own0 : Nat → Prop
  r : Nat → Option Obj

def TOk (m : Mem) (t : List (Nat × Bool × AV)) (tmps : Array Value) : Prop :=
  ∀ d, ((look (true, .bad) t d).1 = true → Ok m (look (true, .bad) t d).2 (tmps.getD d undef)) ∧ ((look (true, .bad) t d).1 = false → tmps.getD d undef = undef)

structure Sat (B : Base) (m : Mem) (s : St) (a : Act) (w : World) : Prop where
  defers : a.defers = []
  size : a.tmps.size = s.N
  r : m.r = B.r
  core : Core m w s.h s.nk
  own : ∀ l b, m.b l = some b → B.own0 b ∨ B.w0.heap.size ≤ b
  frm : Frm B.w0 B.own0 w
  tmps : TOk m s.t a.tmps

/-! ### Carrying what is known over a world in which nothing that was there has turned -/
theorem bsz_below {w w' : World} (hb : RowKit.Below w.heap.size w w') {b : Nat} (h : b < w.heap.size) : bsz w' b = bsz w b := by
  unfold bsz; rw [hb.block b h]

def Mem.at (m : Mem) (w : World) : Mem := { m with z := bsz w }

theorem ChunkOk.keep {m m' : Mem} {w w' : World} {k : Nat} {c : Chunk} (hm : m.le m') (hnone : ∀ i j, m'.b (.sub k i j) = m.b (.sub k i j)) (hroot : m'.b (.root k) = m.b (.root k))
    (hw : ∀ l b, m.b l = some b → (l = .root k ∨ ∃ i j, l = .sub k i j) → w'.heap[b]? = w.heap[b]?) (h : ChunkOk m w k c) : ChunkOk m' w' k c := by
  cases c with
  | pin k' ob zz => exact fun b hb => ⟨hm.b _ _ (h b hb).1, Nat.le_trans (h b hb).2 (hm.z _ _ (h b hb).1)⟩
  | fact xs us => exact Oks.mono hm _ _ h
  | box e cells =>
    obtain ⟨b, vs, fr, h1, h2, h3, h4⟩ := h
    exact ⟨b, vs, fr, by rw [hroot]; exact h1, by rw [hw _ _ h1 (.inl rfl)]; exact h2, h3, Oks.mono hm _ _ h4⟩
  | row e E rows =>
    rcases h with ⟨h1, h2⟩ | ⟨b, vs, fr, h1, h2, h3, h4, h5⟩
    · exact .inl ⟨by rw [hroot]; exact h1, h2⟩
    · refine .inr ⟨b, vs, fr, by rw [hroot]; exact h1, by rw [hw _ _ h1 (.inl rfl)]; exact h2, h3, h4, fun i row hi => ⟨(h5 i row hi).1, fun j c hj => ?_⟩⟩
      obtain ⟨y, hy, hc⟩ := (h5 i row hi).2 j c hj
      refine ⟨y, hy, ?_⟩
      cases c with
      | v x => exact hc
      | s e' E' rows' =>
        obtain ⟨hs, hn⟩ := hc
        refine ⟨hs.mono (hm.b _) (hm.z _), ?_⟩
        rcases hn with ⟨n1, n2⟩ | ⟨b', vs', fr', n1, n2, n3, n4, n5⟩
        · exact .inl ⟨by rw [hnone]; exact n1, n2⟩
        · exact .inr ⟨b', vs', fr', by rw [hnone]; exact n1, by rw [hw _ _ n1 (.inr ⟨i, j, rfl⟩)]; exact n2, n3, n4, n5⟩

theorem Core.below {m : Mem} {w w' : World} {h : Heap} {nk : Nat} (hc : Core m w h nk) (hb : RowKit.Below w.heap.size w w') : Core (m.at w') w' h nk := by
  have hle : m.le (m.at w') := ⟨rfl, fun _ _ h => h, fun l b hl => by
    show m.z b ≤ bsz w' b
    rw [hc.z, bsz_below hb (hc.lt l b hl)]; exact Nat.le_refl _⟩
  exact ⟨hc.inj, fun l b hl => Nat.lt_of_lt_of_le (hc.lt l b hl) hb.size, fun _ => rfl,
    fun b o hr => ⟨by rw [hb.block b ((Array.getElem?_eq_some_iff.1 (hc.ro b o hr).1).1)]; exact (hc.ro b o hr).1, (hc.ro b o hr).2⟩, hc.new,
    fun k c hk => (hc.chunk k c hk).keep hle (fun _ _ => rfl) rfl (fun l b hl _ => hb.block b (hc.lt l b hl))⟩

theorem TOk.mono {m m' : Mem} {t : List (Nat × Bool × AV)} {tmps : Array Value} (h : TOk m t tmps) (hm : m.le m') : TOk m' t tmps :=
  fun d => ⟨fun hc => Ok.mono hm _ _ ((h d).1 hc), (h d).2⟩

theorem Sat.below {B : Base} {m : Mem} {s : St} {a : Act} {w w' : World} (h : Sat B m s a w) (hb : RowKit.Below w.heap.size w w') : Sat B (m.at w') s a w' :=
  ⟨h.defers, h.size, h.r, h.core.below hb, h.own, h.frm.below hb, h.tmps.mono ⟨rfl, fun _ _ h => h, fun l b hl => by
    show m.z b ≤ bsz w' b
    rw [h.core.z, bsz_below hb (h.core.lt l b hl)]; exact Nat.le_refl _⟩⟩

def St.put (s : St) (d : Nat) (c : Bool) (x : AV) : St := ⟨(d, c, x) :: s.t, s.h, s.nk, s.N⟩

theorem getD_set_eq (a : Array Value) (d : Nat) (u : Value) (h : d < a.size) : (a.setIfInBounds d u).getD d undef = u := by
  simp [Array.getD, h]
theorem getD_set_ne (a : Array Value) (d i : Nat) (u : Value) (h : d ≠ i) : (a.setIfInBounds d u).getD i undef = a.getD i undef := by
  simp [Array.getD_eq_getD_getElem?, Array.getElem?_setIfInBounds, h]

theorem TOk.put {m : Mem} {t : List (Nat × Bool × AV)} {tmps : Array Value} (h : TOk m t tmps) {d : Nat} (hd : d < tmps.size) {c : Bool} {x : AV} {u : Value}
    (h1 : c = true → Ok m x u) (h2 : c = false → u = undef) : TOk m ((d, c, x) :: t) (tmps.setIfInBounds d u) := by
  intro i
  by_cases hi : d = i
  · subst hi
    simp only [look, if_true, getD_set_eq _ _ _ hd]
    exact ⟨h1, h2⟩
  · simp only [look, if_neg hi, getD_set_ne _ _ _ _ hi]
    exact h i

theorem Sat.put {B : Base} {m : Mem} {s : St} {a : Act} {w : World} (h : Sat B m s a w) {d : Nat} (hd : d < s.N) {c : Bool} {x : AV} {u : Value}
    (h1 : c = true → Ok m x u) (h2 : c = false → u = undef) : Sat B m (s.put d c x) (a.put (some d) u) w :=
  ⟨h.defers, by simp [Act.put, h.size, St.put], h.r, h.core, h.own, h.frm, h.tmps.put (by rw [h.size]; exact hd) h1 h2⟩

end Go.Eng

/- The engine, part B: operations that leave the memory alone. -/
set_option linter.unusedVariables false
set_option linter.unusedSimpArgs false
namespace Go.Eng
open Go

def str (l : List UInt8) : Value := .string ⟨l.toArray⟩
theorem str_mk (l : List UInt8) : Value.string ⟨List.toArray l⟩ = str l := rfl
theorem str_of (s : ByteArray) : Value.string s = str s.data.toList := by
  unfold str
  cases s
  simp

/-! ### What the program's tables say of a type -/
def isAggT (P : Program) (t : TypeId) : Bool := match P.underlying t with | some (.struct _) => true | some (.array _ _) => true | _ => false
def szT (P : Program) (t : TypeId) : Option Nat := (P.info? t).map (·.size)
/-- A slice type: the element's type and size. -/
def slT (P : Program) (t : TypeId) : Option (TypeId × Nat) := match P.underlying t with | some (.slice e) => (szT P e).map fun n => (e, n) | _ => none
def arT (P : Program) (t : TypeId) : Option (Nat × TypeId × Nat) := match P.underlying t with | some (.array k e) => (szT P e).map fun n => (k, e, n) | _ => none
def strT (P : Program) (t : TypeId) : Bool := match P.underlying t with | some .string => true | _ => false
def intT (P : Program) (t : TypeId) : Option IntKind := match P.underlying t with | some (.int k) => some k | _ => none
/-- Where field f of a struct type lies, if it has cells. -/
def fldT (P : Program) (t : TypeId) (f : Nat) : Option Nat :=
  match P.underlying t with
  | some (.struct fs) => match fs[f]? with
    | some x => match szT P x.type with
      | some (_ + 1) => some x.offset
      | _ => none
    | none => none
  | _ => none
/-- A field's place in the struct's value, whether it is itself of several cells, and of how many. -/
def fldV (P : Program) (t : TypeId) (f : Nat) : Option (Nat × Bool × Nat) :=
  match P.underlying t with
  | some (.struct fs) => match fs[f]? with
    | some x => match szT P x.type, P.underlying x.type with
      | some n, some _ => some (x.offset, isAggT P x.type, n)
      | _, _ => none
    | none => none
  | _ => none

/-! ### Operands -/
def St.ev (s : St) : Operand → Bool × AV
  | .tmp n => look (true, .bad) s.t n
  | .const c => (true, .v c)
  | .func f => (true, .fn f [])
  | .global _ => (true, .bad)

theorem ev_ok {B : Base} {m : Mem} {s : St} {a : Act} {w : World} (h : Sat B m s a w) (x : Operand) (hc : (s.ev x).1 = true) : Ok m (s.ev x).2 (a.eval x) := by
  cases x with
  | tmp n => exact (h.tmps n).1 hc
  | const c => simp only [St.ev, Act.eval, Ok]
  | func f => simp only [St.ev, Act.eval, Ok]; exact ⟨[], rfl, by simp only [Oks]⟩
  | global g => simp only [St.ev, Ok]

def AV.boolP : AV → Prop
  | .v (.bool _) => True
  | _ => False
def AV.boolV : AV → Bool
  | .v (.bool b) => b
  | _ => false
theorem boolV_ok {m : Mem} {x : AV} {u : Value} (h : Ok m x u) (hb : x.boolP) : u = .bool x.boolV := by
  cases x with
  | v y => cases y <;> simp only [AV.boolP] at hb; simp only [Ok] at h; rw [h]; rfl
  | _ => simp only [AV.boolP] at hb
def AV.intP : AV → Prop
  | .v (.int _ _) => True
  | _ => False
def AV.intV : AV → Int
  | .v (.int _ n) => n
  | _ => 0
theorem intV_ok {m : Mem} {x : AV} {u : Value} (h : Ok m x u) (hb : x.intP) : ∃ k, u = .int k x.intV := by
  cases x with
  | v y => cases y <;> simp only [AV.intP] at hb; simp only [Ok] at h; exact ⟨_, h⟩
  | _ => simp only [AV.intP] at hb

/-! ### Guards -/
def dstOf : List Oper → Nat → Option Tmp
  | [], _ => none
  | o :: _, 0 => o.dst
  | _ :: r, i + 1 => dstOf r i
theorem dstOf_eq (l : List Oper) : ∀ i, dstOf l i = (l[i]?).bind (·.dst) := by
  induction l with
  | nil => intro i; rfl
  | cons o r ih => intro i; cases i with
    | zero => rfl
    | succ i => simpa [dstOf] using ih i
def gdt (s : St) (b : Bool) : Option Tmp → Bool
  | some d => (look (true, .bad) s.t d).1 && ((look (true, .bad) s.t d).2.boolV == b)
  | none => false
def gdp (s : St) : Option Tmp → Prop
  | some d => d < s.N ∧ ((look (true, .bad) s.t d).1 = true → (look (true, .bad) s.t d).2.boolP)
  | none => False
/-- Is the operation carried out? -/
def St.G (s : St) (all : List Oper) : Option (Nat × Bool) → Bool
  | none => true
  | some (i, b) => gdt s b (dstOf all i)
def St.gOk (s : St) (all : List Oper) : Option (Nat × Bool) → Prop
  | none => True
  | some (i, _) => gdp s (dstOf all i)

theorem wanted_eq {B : Base} {m : Mem} {s : St} {a : Act} {w : World} (h : Sat B m s a w) (all : Array Oper) (o : Oper) (hg : s.gOk all.toList o.guard) :
    Region.wanted o (yielded all a.tmps) = s.G all.toList o.guard := by
  cases hgd : o.guard with
  | none => simp [Region.wanted, hgd, St.G]
  | some p =>
    obtain ⟨i, b⟩ := p
    rw [hgd] at hg
    simp only [St.gOk, dstOf_eq] at hg
    have hl : ((all.toList[i]?).bind (·.dst)) = ((all[i]?).bind (·.dst)) := by rw [Array.getElem?_toList]
    rw [hl] at hg
    simp only [Region.wanted, hgd, St.G, dstOf_eq, hl, yielded]
    cases hd : (all[i]?).bind (·.dst) with
    | none => rw [hd] at hg; exact hg.elim
    | some d =>
      rw [hd] at hg
      obtain ⟨hN, hb⟩ := hg
      have hdl : d < a.tmps.size := by rw [h.size]; exact hN
      have hget : a.tmps[d]? = some (a.tmps.getD d undef) := by simp [Array.getD, hdl]
      simp only [Option.bind_some, hget, gdt]
      obtain ⟨t1, t2⟩ := h.tmps d
      cases hc : (look (true, .bad) s.t d).1 with
      | true =>
        rw [boolV_ok (t1 hc) (hb hc)]
        cases (look (true, .bad) s.t d).2.boolV <;> cases b <;> rfl
      | false =>
        rw [t2 hc]
        cases b <;> rfl

/-! ### What the operations that leave the memory alone compute -/
def AV.strP : AV → Prop
  | .v (.string _) => True
  | _ => False
def AV.strV : AV → List UInt8
  | .v (.string s) => s.data.toList
  | _ => []
theorem strV_str (l : List UInt8) : AV.strV (.v (str l)) = l := by simp [AV.strV, str]
theorem strP_str (l : List UInt8) : AV.strP (.v (str l)) = True := rfl
theorem strV_ok {m : Mem} {x : AV} {u : Value} (h : Ok m x u) (hb : x.strP) : u = str x.strV := by
  cases x with
  | v y => cases y <;> simp only [AV.strP] at hb; simp only [Ok] at h; rw [h, str_of]; rfl
  | _ => simp only [AV.strP] at hb

/-! #### '==' -/
/-- 1: whole numbers, 2: bools, 3: strings, 4: pointers. -/
def kindT (P : Program) (t : TypeId) : Nat := match P.underlying t with | some (.int _) => 1 | some .bool => 2 | some .string => 3 | some (.pointer _) => 4 | _ => 0
def flatFs (P : Program) : List Field → Nat → Option (List Nat)
  | [], _ => some []
  | f :: fs, i => if f.name ≠ "_" ∧ f.offset = i ∧ isAggT P f.type = false ∧ kindT P f.type ≠ 0 ∧ kindT P f.type ≠ 4 then (flatFs P fs (i + 1)).map (kindT P f.type :: ·) else none
/-- A struct type all of whose fields are flat: their kinds. -/
def flatEqT (P : Program) (t : TypeId) : Option (List Nat) :=
  match P.underlying t with
  | some (.struct fs) => if P.stoodInHeld t = false ∧ P.eqGuardType P.depth t = false then flatFs P fs.toList 0 else none
  | _ => none
def eq0 : AV → AV → Bool
  | .v (.int _ x), .v (.int _ y) => x == y
  | .v (.bool x), .v (.bool y) => x == y
  | .v (.string x), .v (.string y) => x.data.toList == y.data.toList
  | .v (.pointer x), .v (.pointer none) => x.isNone
  | _, _ => false
def eqLs : List AV → List AV → Bool
  | [], _ => true
  | x :: xs, y :: ys => eq0 x y && eqLs xs ys
  | _ :: _, [] => false
def eqAV : AV → AV → Bool
  | .agg xs, .agg ys => eqLs xs ys
  | x, y => eq0 x y
theorem eqAV_int (k k' : IntKind) (x y : Int) : eqAV (.v (.int k x)) (.v (.int k' y)) = (x == y) := rfl
theorem eqAV_bool (x y : Bool) : eqAV (.v (.bool x)) (.v (.bool y)) = (x == y) := rfl
theorem eqAV_str (x y : List UInt8) : eqAV (.v (str x)) (.v (str y)) = (x == y) := by simp [eqAV, eq0, str]
theorem eqAV_ptr (k E i j : Nat) : eqAV (.ptr k E i j) (.v (.pointer none)) = false := rfl
theorem eqAV_agg (xs ys : List AV) : eqAV (.agg xs) (.agg ys) = eqLs xs ys := rfl
theorem eqLs_nil (ys : List AV) : eqLs [] ys = true := by cases ys <;> rfl
theorem eqLs_cons (x y : AV) (xs ys : List AV) : eqLs (x :: xs) (y :: ys) = (eq0 x y && eqLs xs ys) := rfl
theorem eq0_int (k k' : IntKind) (x y : Int) : eq0 (.v (.int k x)) (.v (.int k' y)) = (x == y) := rfl
theorem eq0_bool (x y : Bool) : eq0 (.v (.bool x)) (.v (.bool y)) = (x == y) := rfl
theorem eq0_str (x y : List UInt8) : eq0 (.v (str x)) (.v (str y)) = (x == y) := by simp [eq0, str]
def eq0P : Nat → AV → AV → Prop
  | 1, .v (.int k _), .v (.int k' _) => k = k'
  | 2, .v (.bool _), .v (.bool _) => True
  | 3, .v (.string _), .v (.string _) => True
  | _, _, _ => False
theorem eq0P_int (k k' : IntKind) (x y : Int) : eq0P 1 (.v (.int k x)) (.v (.int k' y)) = (k = k') := rfl
theorem eq0P_bool (x y : Bool) : eq0P 2 (.v (.bool x)) (.v (.bool y)) = True := rfl
theorem eq0P_str (x y : List UInt8) : eq0P 3 (.v (str x)) (.v (str y)) = True := rfl
def eqLsP : List Nat → List AV → List AV → Prop
  | [], [], [] => True
  | k :: ks, x :: xs, y :: ys => eq0P k x y ∧ eqLsP ks xs ys
  | _, _, _ => False
theorem eqLsP_nil : eqLsP [] [] [] = True := rfl
theorem eqLsP_cons (k : Nat) (ks : List Nat) (x y : AV) (xs ys : List AV) : eqLsP (k :: ks) (x :: xs) (y :: ys) = (eq0P k x y ∧ eqLsP ks xs ys) := rfl
def eqP (P : Program) (t : TypeId) : AV → AV → Prop
  | .v (.int k _), .v (.int k' _) => k = k'
  | .v (.bool _), .v (.bool _) => kindT P t = 2
  | .v (.string _), .v (.string _) => True
  | .ptr .., .v (.pointer none) => kindT P t = 4
  | .v (.pointer _), .v (.pointer none) => kindT P t = 4
  | .agg xs, .agg ys => eqLsP ((flatEqT P t).getD [0]) xs ys
  | _, _ => False
theorem eqP_int (P : Program) (t : TypeId) (k k' : IntKind) (x y : Int) : eqP P t (.v (.int k x)) (.v (.int k' y)) = (k = k') := rfl
theorem eqP_bool (P : Program) (t : TypeId) (x y : Bool) : eqP P t (.v (.bool x)) (.v (.bool y)) = (kindT P t = 2) := rfl
theorem eqP_str (P : Program) (t : TypeId) (x y : List UInt8) : eqP P t (.v (str x)) (.v (str y)) = True := rfl
theorem eqP_ptr (P : Program) (t : TypeId) (k E i j : Nat) : eqP P t (.ptr k E i j) (.v (.pointer none)) = (kindT P t = 4) := rfl
theorem eqP_agg (P : Program) (t : TypeId) (xs ys : List AV) : eqP P t (.agg xs) (.agg ys) = eqLsP ((flatEqT P t).getD [0]) xs ys := rfl

def intK : AV → IntKind
  | .v (.int k _) => k
  | _ => .i64
theorem intK_v (k : IntKind) (n : Int) : intK (.v (.int k n)) = k := rfl
theorem intV_v (k : IntKind) (n : Int) : AV.intV (.v (.int k n)) = n := rfl
theorem intP_v (k : IntKind) (n : Int) : AV.intP (.v (.int k n)) = True := rfl
theorem boolV_v (b : Bool) : AV.boolV (.v (.bool b)) = b := rfl
theorem boolP_v (b : Bool) : AV.boolP (.v (.bool b)) = True := rfl

def bytesLt : List UInt8 → List UInt8 → Bool := Op.bytesLess

/-- '+': whole numbers or strings. -/
def addAV : AV → AV → AV
  | .v (.int k x), .v (.int _ y) => .v (.int k (k.wrap (x + y)))
  | .v (.string x), .v (.string y) => .v (str (x.data.toList ++ y.data.toList))
  | _, _ => .bad
theorem addAV_int (k k' : IntKind) (x y : Int) : addAV (.v (.int k x)) (.v (.int k' y)) = .v (.int k (k.wrap (x + y))) := rfl
theorem addAV_str (x y : List UInt8) : addAV (.v (str x)) (.v (str y)) = .v (str (x ++ y)) := by simp [addAV, str]
def addP : AV → AV → Prop
  | .v (.int k _), .v (.int k' _) => k = k'
  | .v (.string x), .v (.string y) => x.size + y.size ≤ 9223372036854775807
  | _, _ => False
theorem addP_int (k k' : IntKind) (x y : Int) : addP (.v (.int k x)) (.v (.int k' y)) = (k = k') := rfl
theorem addP_str (x y : List UInt8) : addP (.v (str x)) (.v (str y)) = (x.length + y.length ≤ 9223372036854775807) := by
  simp [addP, str, ByteArray.size]

def bitsV (op : BinOp) (k : IntKind) (x y : Int) : Int :=
  match op with
  | .and => k.wrap ((BitVec.ofInt k.bits x &&& BitVec.ofInt k.bits y).toNat : Int)
  | .or => k.wrap ((BitVec.ofInt k.bits x ||| BitVec.ofInt k.bits y).toNat : Int)
  | .xor => k.wrap ((BitVec.ofInt k.bits x ^^^ BitVec.ofInt k.bits y).toNat : Int)
  | .andNot => k.wrap ((BitVec.ofInt k.bits x &&& ~~~BitVec.ofInt k.bits y).toNat : Int)
  | _ => 0

def int2P (x y : AV) : Prop := x.intP ∧ y.intP ∧ intK x = intK y
def cmpP : AV → AV → Prop
  | .v (.int k _), .v (.int k' _) => k = k'
  | .v (.string _), .v (.string _) => True
  | _, _ => False
theorem cmpP_int (k k' : IntKind) (x y : Int) : cmpP (.v (.int k x)) (.v (.int k' y)) = (k = k') := rfl
theorem cmpP_str (x y : List UInt8) : cmpP (.v (str x)) (.v (str y)) = True := rfl
def ltAV : AV → AV → Bool
  | .v (.int _ x), .v (.int _ y) => decide (x < y)
  | .v (.string x), .v (.string y) => bytesLt x.data.toList y.data.toList
  | _, _ => false
theorem ltAV_int (k k' : IntKind) (x y : Int) : ltAV (.v (.int k x)) (.v (.int k' y)) = decide (x < y) := rfl
theorem ltAV_str (x y : List UInt8) : ltAV (.v (str x)) (.v (str y)) = bytesLt x y := by simp [ltAV, str]
def leAV : AV → AV → Bool
  | .v (.int _ x), .v (.int _ y) => decide (x ≤ y)
  | .v (.string x), .v (.string y) => bytesLt x.data.toList y.data.toList || x.data.toList == y.data.toList
  | _, _ => false
theorem leAV_int (k k' : IntKind) (x y : Int) : leAV (.v (.int k x)) (.v (.int k' y)) = decide (x ≤ y) := rfl
theorem leAV_str (x y : List UInt8) : leAV (.v (str x)) (.v (str y)) = (bytesLt x y || x == y) := by simp [leAV, str]
def gtAV : AV → AV → Bool
  | .v (.int _ x), .v (.int _ y) => decide (x > y)
  | .v (.string x), .v (.string y) => !(bytesLt x.data.toList y.data.toList || x.data.toList == y.data.toList)
  | _, _ => false
theorem gtAV_int (k k' : IntKind) (x y : Int) : gtAV (.v (.int k x)) (.v (.int k' y)) = decide (x > y) := rfl
theorem gtAV_str (x y : List UInt8) : gtAV (.v (str x)) (.v (str y)) = !(bytesLt x y || x == y) := by simp [gtAV, str]
def geAV : AV → AV → Bool
  | .v (.int _ x), .v (.int _ y) => decide (x ≥ y)
  | .v (.string x), .v (.string y) => !(bytesLt x.data.toList y.data.toList)
  | _, _ => false
theorem geAV_int (k k' : IntKind) (x y : Int) : geAV (.v (.int k x)) (.v (.int k' y)) = decide (x ≥ y) := rfl

def quoV (k : IntKind) (x y : Int) : Int := k.wrap (x.tdiv y)
def remV (x y : Int) : Int := x.tmod y
def shlV (k : IntKind) (x y : Int) : Int := k.wrap (x * 2 ^ (min y.toNat k.bits))
def shrV (k : IntKind) (x y : Int) : Int := x.fdiv (2 ^ (min y.toNat k.bits))

def binAV (op : BinOp) (x y : AV) : AV :=
  match op with
  | .add => addAV x y
  | .sub => .v (.int (intK x) ((intK x).wrap (x.intV - y.intV)))
  | .mul => .v (.int (intK x) ((intK x).wrap (x.intV * y.intV)))
  | .quo => .v (.int (intK x) (quoV (intK x) x.intV y.intV))
  | .rem => .v (.int (intK x) (remV x.intV y.intV))
  | .shl => .v (.int (intK x) (shlV (intK x) x.intV y.intV))
  | .shr => .v (.int (intK x) (shrV (intK x) x.intV y.intV))
  | .eql => .v (.bool (eqAV x y))
  | .neq => .v (.bool (!(eqAV x y)))
  | .lss => .v (.bool (ltAV x y))
  | .leq => .v (.bool (leAV x y))
  | .gtr => .v (.bool (gtAV x y))
  | .geq => .v (.bool (geAV x y))
  | .and => .v (.int (intK x) (bitsV .and (intK x) x.intV y.intV))
  | .or => .v (.int (intK x) (bitsV .or (intK x) x.intV y.intV))
  | .xor => .v (.int (intK x) (bitsV .xor (intK x) x.intV y.intV))
  | .andNot => .v (.int (intK x) (bitsV .andNot (intK x) x.intV y.intV))
def binP (P : Program) (t : TypeId) (op : BinOp) (x y : AV) : Prop :=
  match op with
  | .add => addP x y
  | .sub | .mul => int2P x y
  | .and | .or | .xor | .andNot => int2P x y
  | .quo | .rem => int2P x y ∧ y.intV ≠ 0
  | .shl | .shr => x.intP ∧ y.intP ∧ 0 ≤ y.intV
  | .eql | .neq => eqP P t x y
  | .lss | .leq | .gtr | .geq => cmpP x y

end Go.Eng

/- The engine, part C: the pure operations, and that the machine does them. -/
set_option linter.unusedVariables false
set_option linter.unusedSimpArgs false
namespace Go.Eng
open Go

variable {P : Program}

theorem ok_v {m : Mem} {x u : Value} : Ok m (.v x) u ↔ u = x := by simp only [Ok]
theorem ok_bad {m : Mem} {u : Value} : Ok m .bad u := by simp only [Ok]

theorem addP_inv {x y : AV} (h : addP x y) : (∃ k p q, x = .v (.int k p) ∧ y = .v (.int k q)) ∨ (∃ p q, x = .v (.string p) ∧ y = .v (.string q) ∧ p.size + q.size ≤ 9223372036854775807) := by
  unfold addP at h
  split at h
  · subst h; exact .inl ⟨_, _, _, rfl, rfl⟩
  · exact .inr ⟨_, _, rfl, rfl, h⟩
  · exact h.elim
theorem eqP_inv {P : Program} {t : TypeId} {x y : AV} (h : eqP P t x y) : (∃ k p q, x = .v (.int k p) ∧ y = .v (.int k q)) ∨ (∃ p q, x = .v (.string p) ∧ y = .v (.string q)) ∨ (∃ p q, x = .v (.bool p) ∧ y = .v (.bool q) ∧ kindT P t = 2) ∨
    (∃ xs ys, x = .agg xs ∧ y = .agg ys ∧ eqLsP ((flatEqT P t).getD [0]) xs ys) ∨ (∃ k E i j, x = .ptr k E i j ∧ y = .v (.pointer none) ∧ kindT P t = 4) ∨ (∃ p, x = .v (.pointer p) ∧ y = .v (.pointer none) ∧ kindT P t = 4) := by
  unfold eqP at h
  split at h
  · subst h; exact .inl ⟨_, _, _, rfl, rfl⟩
  · exact .inr (.inr (.inl ⟨_, _, rfl, rfl, h⟩))
  · exact .inr (.inl ⟨_, _, rfl, rfl⟩)
  · exact .inr (.inr (.inr (.inr (.inl ⟨_, _, _, _, rfl, rfl, h⟩))))
  · exact .inr (.inr (.inr (.inr (.inr ⟨_, rfl, rfl, h⟩))))
  · exact .inr (.inr (.inr (.inl ⟨_, _, rfl, rfl, h⟩)))
  · exact h.elim
theorem cmpP_inv {x y : AV} (h : cmpP x y) : (∃ k p q, x = .v (.int k p) ∧ y = .v (.int k q)) ∨ (∃ p q, x = .v (.string p) ∧ y = .v (.string q)) := by
  unfold cmpP at h
  split at h
  · subst h; exact .inl ⟨_, _, _, rfl, rfl⟩
  · exact .inr ⟨_, _, rfl, rfl⟩
  · exact h.elim
theorem intP_inv {x : AV} (h : x.intP) : ∃ k n, x = .v (.int k n) := by
  unfold AV.intP at h
  split at h
  · exact ⟨_, _, rfl⟩
  · exact h.elim
theorem boolP_inv {x : AV} (h : x.boolP) : ∃ n, x = .v (.bool n) := by
  unfold AV.boolP at h
  split at h
  · exact ⟨_, rfl⟩
  · exact h.elim
theorem strP_inv {x : AV} (h : x.strP) : ∃ n, x = .v (.string n) := by
  unfold AV.strP at h
  split at h
  · exact ⟨_, rfl⟩
  · exact h.elim
theorem int2P_inv {x y : AV} (h : int2P x y) : ∃ k p q, x = .v (.int k p) ∧ y = .v (.int k q) := by
  obtain ⟨h1, h2, h3⟩ := h
  obtain ⟨k, p, rfl⟩ := intP_inv h1
  obtain ⟨k', q, rfl⟩ := intP_inv h2
  cases h3
  exact ⟨_, _, _, rfl, rfl⟩

theorem kind_bool {P : Program} {t : TypeId} (h : kindT P t = 2) : P.underlying t = some .bool := by
  unfold kindT at h; split at h <;> first | assumption | omega
theorem kind_int {P : Program} {t : TypeId} (h : kindT P t = 1) : ∃ k, P.underlying t = some (.int k) := by
  unfold kindT at h; split at h <;> first | exact ⟨_, by assumption⟩ | omega
theorem kind_str {P : Program} {t : TypeId} (h : kindT P t = 3) : P.underlying t = some .string := by
  unfold kindT at h; split at h <;> first | assumption | omega
theorem kind_ptr {P : Program} {t : TypeId} (h : kindT P t = 4) : P.underlying t = some (.pointer (P.pointee t)) := by
  unfold kindT at h; split at h <;> first | omega | skip
  rename_i e he
  rw [he]; simp [Program.pointee, he]

theorem eq_field {P : Program} {m : Mem} {k : Nat} {x y : AV} {u v : Value} {t : TypeId} (hk : kindT P t = k) (h : eq0P k x y) (hx : Ok m x u) (hy : Ok m y v) (d : Nat) (w : World) :
    (Op.equalIn (d + 1) t u v).run P w = .ok (eq0 x y) w := by
  unfold eq0P at h
  split at h
  · obtain ⟨k', hu⟩ := kind_int hk
    subst h; rw [ok_v] at hx hy; subst hx; subst hy
    exact run_equalIn_int w d t _ k' _ _ hu
  · rw [ok_v] at hx hy; subst hx; subst hy
    exact run_equalIn_bool w d t _ _ (kind_bool hk)
  · rw [ok_v] at hx hy; subst hx; subst hy
    rw [run_equalIn_string w d t _ _ (kind_str hk), ByteArray.toList_eq, ByteArray.toList_eq]; rfl
  · exact h.elim

theorem part_flat {P : Program} {t : TypeId} (ha : isAggT P t = false) (ht : kindT P t ≠ 0) {cs : Array Value} {off : Nat} {u : Value} (hu : cs[off]? = some u) (w : World) : (part t cs off).run P w = .ok u w := by
  have hun : ∃ d, P.underlying t = some d := by
    unfold kindT at ht
    cases h : P.underlying t with
    | none => rw [h] at ht; exact absurd rfl ht
    | some d => exact ⟨d, rfl⟩
  obtain ⟨d, hd⟩ := hun
  have hag : (isAgg t).run P w = .ok false w := by
    unfold isAgg
    simp only [Sem.run_bind, run_underlying hd, Result.andThen_ok]
    unfold isAggT at ha
    rw [hd] at ha
    cases d <;> simp_all
  unfold part
  simp only [Sem.run_bind, hag, Result.andThen_ok]
  simp [hu]

theorem eq_fields {P : Program} {m : Mem} : ∀ (fs : List Field) (i : Nat) (ks : List Nat) (xs ys : List AV) (us vs : Array Value), flatFs P fs i = some ks → eqLsP ks xs ys →
    Oks m xs (us.toList.drop i) → Oks m ys (vs.toList.drop i) → ∀ (d : Nat) (w : World), (Op.eqFields (d + 1) us vs fs).run P w = .ok (eqLs xs ys) w
  | [], i, ks, xs, ys, us, vs, hf, hp, hx, hy, d, w => by
    simp only [flatFs, Option.some.injEq] at hf; subst hf
    cases xs <;> cases ys <;> simp only [eqLsP] at hp
    simp [Op.eqFields, eqLs]
  | f :: fs, i, ks, xs, ys, us, vs, hf, hp, hx, hy, d, w => by
    simp only [flatFs] at hf
    split at hf
    · rename_i hc
      obtain ⟨c1, c2, c3, c4, c5⟩ := hc
      cases hr : flatFs P fs (i + 1) with
      | none => rw [hr] at hf; simp at hf
      | some ks' =>
        rw [hr] at hf
        simp only [Option.map_some, Option.some.injEq] at hf
        subst hf
        cases xs with
        | nil => cases ys <;> simp only [eqLsP] at hp
        | cons x xs =>
          cases ys with
          | nil => simp only [eqLsP] at hp
          | cons y ys =>
            simp only [eqLsP] at hp
            simp only [Oks] at hx hy
            obtain ⟨u, us', hu, hxu, hxs⟩ := hx
            obtain ⟨v, vs', hv, hyv, hys⟩ := hy
            have gu : us[i]? = some u := by
              have : (us.toList.drop i)[0]? = some u := by rw [hu]; rfl
              simpa using this
            have gv : vs[i]? = some v := by
              have : (vs.toList.drop i)[0]? = some v := by rw [hv]; rfl
              simpa using this
            have du : us.toList.drop (i + 1) = us' := by rw [← List.drop_drop, hu]; rfl
            have dv : vs.toList.drop (i + 1) = vs' := by rw [← List.drop_drop, hv]; rfl
            simp only [Op.eqFields, if_pos c1, Sem.run_bind, part_flat c3 c4 (c2 ▸ gu), part_flat c3 c4 (c2 ▸ gv), Result.andThen_ok, eq_field rfl hp.1 hxu hyv]
            cases h0 : eq0 x y with
            | false => simp [eqLs, h0]
            | true =>
              simp only [eqLs, h0, Bool.true_and]
              have := eq_fields fs (i + 1) ks' xs ys us vs hr hp.2 (du ▸ hxs) (dv ▸ hys) d w
              simpa using this
    · simp at hf

theorem eq_agg {P : Program} {m : Mem} {t : TypeId} {xs ys : List AV} {us vs : List Value} (h : eqLsP ((flatEqT P t).getD [0]) xs ys) (hx : Oks m xs us) (hy : Oks m ys vs) :
    P.eqGuardType P.depth t = false ∧ ∀ w, (Op.equalIn 10000 t (.agg us.toArray) (.agg vs.toArray)).run P w = .ok (eqLs xs ys) w := by
  cases hft : flatEqT P t with
  | none =>
    rw [hft] at h
    simp only [Option.getD_none] at h
    cases xs <;> cases ys <;> simp only [eqLsP, eq0P, false_and] at h
  | some ks =>
    rw [hft] at h
    simp only [Option.getD_some] at h
    unfold flatEqT at hft
    split at hft
    · rename_i fs hfs
      split at hft
      · rename_i hc
        refine ⟨hc.2, fun w => ?_⟩
        have hf : P.fieldsOf t = fs := by simp [Program.fieldsOf, hfs]
        rw [run_equalIn_struct w 9999 t _ _ (by rw [hf]; exact hfs) hc.1, hf]
        exact eq_fields fs.toList 0 ks xs ys _ _ hft h (by simpa using hx) (by simpa using hy) 9998 w
      · simp at hft
    · simp at hft

def binRun (op : BinOp) (t : TypeId) (a b : Operand) (u v : Value) : Sem Value := do eqGuard op t a b u v; binOp op t u v

theorem bin_run {m : Mem} {op : BinOp} {x y : AV} {u v : Value} (hx : Ok m x u) (hy : Ok m y v) {t : TypeId} (hp : binP P t op x y) (a b : Operand) :
    ∃ z, Ok m (binAV op x y) z ∧ ∀ w : World, (binRun op t a b u v).run P w = .ok z w := by
  have ar : ∀ (x y : AV) (h : int2P x y) (hx : Ok m x u) (hy : Ok m y v), ∃ k p q, x = .v (.int k p) ∧ y = .v (.int k q) ∧ u = .int k p ∧ v = .int k q := by
    intro x y h hx hy
    obtain ⟨k, p, q, rfl, rfl⟩ := int2P_inv h
    exact ⟨k, p, q, rfl, rfl, ok_v.1 hx, ok_v.1 hy⟩
  cases op
  case add =>
    rcases addP_inv hp with ⟨k, p, q, rfl, rfl⟩ | ⟨p, q, rfl, rfl, hs⟩
    · rw [ok_v] at hx hy; subst hx; subst hy
      exact ⟨_, ok_v.2 rfl, fun w => by simp [binRun, eqGuard, binOp, Op.intArith]⟩
    · rw [ok_v] at hx hy; subst hx; subst hy
      refine ⟨_, ok_v.2 rfl, fun w => ?_⟩
      have := run_string_add_sum (P := P) (w := w) _ _ hs
      simp only [binRun, eqGuard]
      simp [binOp]
      rw [this, str_of]
      simp [ByteArray.data_append]
  case sub => obtain ⟨k, p, q, rfl, rfl, rfl, rfl⟩ := ar x y hp hx hy; exact ⟨_, ok_v.2 rfl, fun w => by simp [binRun, eqGuard, binOp, Op.intArith, intK, AV.intV]⟩
  case mul => obtain ⟨k, p, q, rfl, rfl, rfl, rfl⟩ := ar x y hp hx hy; exact ⟨_, ok_v.2 rfl, fun w => by simp [binRun, eqGuard, binOp, Op.intArith, intK, AV.intV]⟩
  case quo =>
    obtain ⟨k, p, q, rfl, rfl, rfl, rfl⟩ := ar x y hp.1 hx hy
    have hz : q ≠ 0 := hp.2
    exact ⟨_, ok_v.2 rfl, fun w => by simp [binRun, eqGuard, binOp, Op.intDiv, hz, intK, AV.intV, quoV]⟩
  case rem =>
    obtain ⟨k, p, q, rfl, rfl, rfl, rfl⟩ := ar x y hp.1 hx hy
    have hz : q ≠ 0 := hp.2
    exact ⟨_, ok_v.2 rfl, fun w => by simp [binRun, eqGuard, binOp, Op.intDiv, hz, intK, AV.intV, remV]⟩
  case shl =>
    obtain ⟨h1, h2, h3⟩ := hp
    obtain ⟨k, p, rfl⟩ := intP_inv h1
    obtain ⟨k', q, rfl⟩ := intP_inv h2
    rw [ok_v] at hx hy; subst hx; subst hy
    have hq : ¬ q < 0 := by simp only [AV.intV] at h3; omega
    exact ⟨_, ok_v.2 rfl, fun w => by simp [binRun, eqGuard, binOp, Op.shift, hq, intK, AV.intV, shlV]⟩
  case shr =>
    obtain ⟨h1, h2, h3⟩ := hp
    obtain ⟨k, p, rfl⟩ := intP_inv h1
    obtain ⟨k', q, rfl⟩ := intP_inv h2
    rw [ok_v] at hx hy; subst hx; subst hy
    have hq : ¬ q < 0 := by simp only [AV.intV] at h3; omega
    exact ⟨_, ok_v.2 rfl, fun w => by simp [binRun, eqGuard, binOp, Op.shift, hq, intK, AV.intV, shrV]⟩
  case and => obtain ⟨k, p, q, rfl, rfl, rfl, rfl⟩ := ar x y hp hx hy; exact ⟨_, ok_v.2 rfl, fun w => by simp [binRun, eqGuard, binOp]; rfl⟩
  case or => obtain ⟨k, p, q, rfl, rfl, rfl, rfl⟩ := ar x y hp hx hy; exact ⟨_, ok_v.2 rfl, fun w => by simp [binRun, eqGuard, binOp]; rfl⟩
  case xor => obtain ⟨k, p, q, rfl, rfl, rfl, rfl⟩ := ar x y hp hx hy; exact ⟨_, ok_v.2 rfl, fun w => by simp [binRun, eqGuard, binOp]; rfl⟩
  case andNot => obtain ⟨k, p, q, rfl, rfl, rfl, rfl⟩ := ar x y hp hx hy; exact ⟨_, ok_v.2 rfl, fun w => by simp [binRun, eqGuard, binOp]; rfl⟩
  case eql =>
    rcases eqP_inv hp with ⟨k, p, q, rfl, rfl⟩ | ⟨p, q, rfl, rfl⟩ | ⟨p, q, rfl, rfl, hk⟩ | ⟨xs, ys, rfl, rfl, hk⟩ | ⟨k, E, i, j, rfl, rfl, hk⟩ | ⟨p, rfl, rfl, hk⟩
    · rw [ok_v] at hx hy; subst hx; subst hy
      exact ⟨_, ok_v.2 rfl, fun w => by simp [binRun, eqGuard, binOp, Op.intCmp, eqAV, eq0]⟩
    · rw [ok_v] at hx hy; subst hx; subst hy
      exact ⟨_, ok_v.2 rfl, fun w => by simp [binRun, eqGuard, binOp, Op.stringOp, eqAV, eq0, ByteArray.toList_eq]⟩
    · rw [ok_v] at hx hy; subst hx; subst hy
      exact ⟨_, ok_v.2 rfl, fun w => by simp only [binRun, eqGuard, binOp, eqAV, eq0]; simp [run_equal_bool w t p q (kind_bool hk)]⟩
    · simp only [Ok] at hx hy
      obtain ⟨us, rfl, hx⟩ := hx
      obtain ⟨vs, rfl, hy⟩ := hy
      obtain ⟨g1, g2⟩ := eq_agg hk hx hy
      exact ⟨_, ok_v.2 rfl, fun w => by simp [binRun, run_eqGuard_agg w _ t a b _ _ g1, run_eql_struct, g2, eqAV]⟩
    · rw [ok_v] at hy; subst hy
      simp only [Ok] at hx
      obtain ⟨b', _, rfl⟩ := hx
      exact ⟨_, ok_v.2 rfl, fun w => by simp [binRun, eqGuard, run_eql_pointer_nil w t _ (kind_ptr hk), eqAV, eq0]⟩
    · rw [ok_v] at hx hy; subst hx; subst hy
      exact ⟨_, ok_v.2 rfl, fun w => by simp [binRun, eqGuard, run_eql_pointer_nil w t _ (kind_ptr hk), eqAV, eq0]⟩
  case neq =>
    rcases eqP_inv hp with ⟨k, p, q, rfl, rfl⟩ | ⟨p, q, rfl, rfl⟩ | ⟨p, q, rfl, rfl, hk⟩ | ⟨xs, ys, rfl, rfl, hk⟩ | ⟨k, E, i, j, rfl, rfl, hk⟩ | ⟨p, rfl, rfl, hk⟩
    · rw [ok_v] at hx hy; subst hx; subst hy
      exact ⟨_, ok_v.2 rfl, fun w => by simp [binRun, eqGuard, binOp, Op.intCmp, eqAV, eq0, bne]⟩
    · rw [ok_v] at hx hy; subst hx; subst hy
      exact ⟨_, ok_v.2 rfl, fun w => by simp [binRun, eqGuard, binOp, Op.stringOp, eqAV, eq0, ByteArray.toList_eq]⟩
    · rw [ok_v] at hx hy; subst hx; subst hy
      exact ⟨_, ok_v.2 rfl, fun w => by simp only [binRun, eqGuard, binOp, eqAV, eq0]; simp [run_equal_bool w t p q (kind_bool hk)]⟩
    · simp only [Ok] at hx hy
      obtain ⟨us, rfl, hx⟩ := hx
      obtain ⟨vs, rfl, hy⟩ := hy
      obtain ⟨g1, g2⟩ := eq_agg hk hx hy
      exact ⟨_, ok_v.2 rfl, fun w => by simp [binRun, run_eqGuard_agg w _ t a b _ _ g1, run_neq_struct, g2, eqAV]⟩
    · rw [ok_v] at hy; subst hy
      simp only [Ok] at hx
      obtain ⟨b', _, rfl⟩ := hx
      exact ⟨_, ok_v.2 rfl, fun w => by simp [binRun, eqGuard, run_neq_pointer_nil w t _ (kind_ptr hk), eqAV, eq0]⟩
    · rw [ok_v] at hx hy; subst hx; subst hy
      exact ⟨_, ok_v.2 rfl, fun w => by simp [binRun, eqGuard, run_neq_pointer_nil w t _ (kind_ptr hk), eqAV, eq0]⟩
  case lss =>
    rcases cmpP_inv hp with ⟨k, p, q, rfl, rfl⟩ | ⟨p, q, rfl, rfl⟩ <;> (rw [ok_v] at hx hy; subst hx; subst hy)
    · exact ⟨_, ok_v.2 rfl, fun w => by simp [binRun, eqGuard, binOp, Op.intCmp, ltAV]⟩
    · exact ⟨_, ok_v.2 rfl, fun w => by simp [binRun, eqGuard, binOp, Op.stringOp, ltAV, bytesLt, ByteArray.toList_eq]⟩
  case leq =>
    rcases cmpP_inv hp with ⟨k, p, q, rfl, rfl⟩ | ⟨p, q, rfl, rfl⟩ <;> (rw [ok_v] at hx hy; subst hx; subst hy)
    · exact ⟨_, ok_v.2 rfl, fun w => by simp [binRun, eqGuard, binOp, Op.intCmp, leAV]⟩
    · exact ⟨_, ok_v.2 rfl, fun w => by simp [binRun, eqGuard, binOp, Op.stringOp, leAV, bytesLt, ByteArray.toList_eq]⟩
  case gtr =>
    rcases cmpP_inv hp with ⟨k, p, q, rfl, rfl⟩ | ⟨p, q, rfl, rfl⟩ <;> (rw [ok_v] at hx hy; subst hx; subst hy)
    · exact ⟨_, ok_v.2 rfl, fun w => by simp [binRun, eqGuard, binOp, Op.intCmp, gtAV]⟩
    · exact ⟨_, ok_v.2 rfl, fun w => by simp [binRun, eqGuard, binOp, Op.stringOp, gtAV, bytesLt, ByteArray.toList_eq]⟩
  case geq =>
    rcases cmpP_inv hp with ⟨k, p, q, rfl, rfl⟩ | ⟨p, q, rfl, rfl⟩ <;> (rw [ok_v] at hx hy; subst hx; subst hy)
    · exact ⟨_, ok_v.2 rfl, fun w => by simp [binRun, eqGuard, binOp, Op.intCmp, geAV]⟩
    · exact ⟨_, ok_v.2 rfl, fun w => by simp [binRun, eqGuard, binOp, Op.stringOp, geAV, bytesLt, ByteArray.toList_eq]⟩

end Go.Eng

/- The engine, part D: addresses, loads, strings, slices: what they compute, and that the machine does it. -/
set_option linter.unusedVariables false
set_option linter.unusedSimpArgs false
namespace Go.Eng
open Go

variable {P : Program}

/-! ### Types -/
theorem slT_spec {t e : TypeId} {E : Nat} (h : slT P t = some (e, E)) : P.underlying t = some (.slice e) ∧ ∃ i, P.info? e = some i ∧ i.size = E := by
  unfold slT at h
  split at h
  · rename_i e' he
    unfold szT at h
    cases hi : P.info? e' with
    | none => rw [hi] at h; simp at h
    | some i =>
      rw [hi] at h
      simp only [Option.map_some, Option.some.injEq, Prod.mk.injEq] at h
      obtain ⟨rfl, rfl⟩ := h
      exact ⟨he, i, hi, rfl⟩
  · simp at h
theorem arT_spec {t e : TypeId} {k E : Nat} (h : arT P t = some (k, e, E)) : P.underlying t = some (.array k e) ∧ ∃ i, P.info? e = some i ∧ i.size = E := by
  unfold arT at h
  split at h
  · rename_i k' e' he
    unfold szT at h
    cases hi : P.info? e' with
    | none => rw [hi] at h; simp at h
    | some i =>
      rw [hi] at h
      simp only [Option.map_some, Option.some.injEq, Prod.mk.injEq] at h
      obtain ⟨rfl, rfl, rfl⟩ := h
      exact ⟨he, i, hi, rfl⟩
  · simp at h
theorem strT_spec {t : TypeId} (h : strT P t = true) : P.underlying t = some .string := by
  unfold strT at h; split at h
  · assumption
  · simp at h
theorem intT_spec {t : TypeId} {k : IntKind} (h : intT P t = some k) : P.underlying t = some (.int k) := by
  unfold intT at h; split at h
  · rename_i k' he; simp at h; subst h; exact he
  · simp at h
theorem run_sizeOf {e : TypeId} {i : TypeInfo} (h : P.info? e = some i) (w : World) : (sizeOf e).run P w = .ok i.size w := by
  simp [sizeOf, typeInfo, h]

/-! ### len -/
def lenAV : AV → Nat
  | .v (.string s) => s.data.toList.length
  | .v (.slice _ n _) => n
  | .rd _ rows => rows.length
  | .sl _ _ _ n => n
  | .sub _ _ _ _ _ n => n
  | _ => 0
theorem lenAV_str (l : List UInt8) : lenAV (.v (str l)) = l.length := by simp [lenAV, str]
theorem lenAV_sl (k E lo n : Nat) : lenAV (.sl k E lo n) = n := rfl
theorem lenAV_sub (k i j E lo n : Nat) : lenAV (.sub k i j E lo n) = n := rfl
theorem lenAV_rd (E : Nat) (rows : List (List Cell)) : lenAV (.rd E rows) = rows.length := rfl
theorem lenAV_nil (a : Option Addr) (n c : Nat) : lenAV (.v (.slice a n c)) = n := rfl
def isSlAV : AV → Prop
  | .v (.slice none 0 0) => True
  | .rd .. => True
  | .sl .. => True
  | .sub .. => True
  | _ => False
theorem isSl_sl (k E lo n : Nat) : isSlAV (.sl k E lo n) = True := rfl
theorem isSl_sub (k i j E lo n : Nat) : isSlAV (.sub k i j E lo n) = True := rfl
theorem isSl_rd (E : Nat) (rows : List (List Cell)) : isSlAV (.rd E rows) = True := rfl
theorem isSl_nil : isSlAV (.v (.slice none 0 0)) = True := rfl
theorem isSl_v {x : Value} (h : isSlAV (.v x)) : x = .slice none 0 0 := by
  unfold isSlAV at h
  split at h <;> simp_all
theorem bsize (s : ByteArray) : s.data.toList.length = s.size := by simp
theorem isSl_ok {m : Mem} {x : AV} {u : Value} (hx : Ok m x u) (h : isSlAV x) : ∃ A c, u = .slice A (lenAV x) c := by
  cases x <;> simp only [isSlAV] at h
  case v x =>
    rw [ok_v, isSl_v h] at hx; rw [isSl_v h]; exact ⟨_, _, hx⟩
  case rd => simp only [Ok] at hx; obtain ⟨A, c, h1, _⟩ := hx; exact ⟨A, c, h1⟩
  case sl => simp only [Ok] at hx; obtain ⟨A, c, h1, _⟩ := hx; exact ⟨A, c, h1⟩
  case sub => simp only [Ok] at hx; obtain ⟨A, c, h1, _⟩ := hx; exact ⟨A, c, h1⟩
def lenP (P : Program) (t : TypeId) (x : AV) : Prop := if strT P t = true then x.strP else ((slT P t).isSome = true ∧ isSlAV x)
theorem len_run {m : Mem} {t : TypeId} {x : AV} {u : Value} (hx : Ok m x u) (hp : lenP P t x) (ts : Array TypeId) (ty : TypeId) (h0 : ts[0]? = some t) (w : World) :
    (Builtin.len_ ts ty #[u]).run P w = .ok (.int .i64 (lenAV x)) w := by
  unfold lenP at hp
  split at hp
  · rename_i hs
    obtain ⟨s, rfl⟩ := strP_inv hp
    rw [ok_v] at hx; subst hx
    simp only [lenAV, bsize]
    simp [Builtin.len_, h0, run_underlying (strT_spec hs), goInt]
  · obtain ⟨h1, h2⟩ := hp
    obtain ⟨A, c, rfl⟩ := isSl_ok hx h2
    cases hs : slT P t with
    | none => rw [hs] at h1; simp at h1
    | some p =>
      obtain ⟨e, E⟩ := p
      simp [Builtin.len_, h0, run_underlying (slT_spec hs).1, goInt]

/-! ### a byte of a string; cuts -/
def idxAV (x i : AV) : AV := .v (.int .u8 (x.strV.getD i.intV.toNat 0).toNat)
def idxP (P : Program) (t : TypeId) (x i : AV) : Prop := strT P t = true ∧ x.strP ∧ i.intP ∧ 0 ≤ i.intV ∧ i.intV < x.strV.length
theorem idx_run {m : Mem} {t : TypeId} {x i : AV} {u v : Value} (hx : Ok m x u) (hi : Ok m i v) (hp : idxP P t x i) : ∃ z, Ok m (idxAV x i) z ∧ ∀ w, (Instr.index t u v).run P w = .ok z w := by
  obtain ⟨h1, h2, h3, h4, h5⟩ := hp
  obtain ⟨s, rfl⟩ := strP_inv h2
  obtain ⟨k, n, rfl⟩ := intP_inv h3
  rw [ok_v] at hx hi; subst hx; subst hi
  simp only [AV.intV, AV.strV, bsize] at h4 h5
  refine ⟨_, ok_v.2 rfl, fun w => ?_⟩
  have hl : n.toNat < s.size := by omega
  have hg : s[n.toNat]? = some s[n.toNat] := by simp [hl]
  simp only [Instr.index, Sem.run_bind, run_underlying (strT_spec h1)]
  simp [asIntOf, run_underlying (strT_spec h1), h4, hg, AV.strV, AV.intV, List.getD_eq_getElem?_getD]
  have : n.toNat < s.data.size := by simpa using hl
  simp [this, hl]
  rfl

def optV (s : St) (d : Nat) : Option Operand → Int
  | none => d
  | some x => (s.ev x).2.intV
def optP (s : St) : Option Operand → Prop
  | none => True
  | some x => (s.ev x).1 = true ∧ (s.ev x).2.intP
def cutAV (x : AV) (l h : Nat) : AV :=
  match x with
  | .v (.string s) => .v (str ((s.data.toList.drop l).take (h - l)))
  | .rd E rows => .rd E ((rows.drop l).take (h - l))
  | .sl k E lo n => .sl k E (lo + l) (h - l)
  | .sub k i j E lo n => .sub k i j E (lo + l) (h - l)
  | .v (.slice none _ _) => .v (.slice none 0 0)
  | _ => .bad
theorem cutAV_str (s : List UInt8) (l h : Nat) : cutAV (.v (str s)) l h = .v (str ((s.drop l).take (h - l))) := by simp [cutAV, str]
theorem cutAV_rd (E : Nat) (rows : List (List Cell)) (l h : Nat) : cutAV (.rd E rows) l h = .rd E ((rows.drop l).take (h - l)) := rfl
theorem cutAV_sl (k E lo n : Nat) (l h : Nat) : cutAV (.sl k E lo n) l h = .sl k E (lo + l) (h - l) := rfl
theorem cutAV_sub (k i j E lo n : Nat) (l h : Nat) : cutAV (.sub k i j E lo n) l h = .sub k i j E (lo + l) (h - l) := rfl
theorem cutAV_nil (l h : Nat) : cutAV (.v (.slice none 0 0)) l h = .v (.slice none 0 0) := rfl
/-- The element size in a slice's abstract value, where it bears one. -/
def eszAV (E : Nat) : AV → Prop
  | .rd E' _ => E' = E
  | .sl _ E' _ _ => E' = E
  | .sub _ _ _ E' _ _ => E' = E
  | .v (.slice none 0 0) => True
  | _ => False
theorem eszAV_rd (E E' : Nat) (rows : List (List Cell)) : eszAV E (.rd E' rows) = (E' = E) := rfl
theorem eszAV_sl (E k E' lo n : Nat) : eszAV E (.sl k E' lo n) = (E' = E) := rfl
theorem eszAV_sub (E k i j E' lo n : Nat) : eszAV E (.sub k i j E' lo n) = (E' = E) := rfl
theorem eszAV_nil (E : Nat) : eszAV E (.v (.slice none 0 0)) = True := rfl
def cutP (P : Program) (t : TypeId) (x : AV) (l h : Int) : Prop :=
  (if strT P t = true then x.strP else (isSlAV x ∧ eszAV (((slT P t).map (·.2)).getD 0) x ∧ (slT P t).isSome = true)) ∧ 0 ≤ l ∧ l ≤ h ∧ h ≤ lenAV x

theorem bounds_run {m : Mem} {s : St} {a : Act} {lo hi : Option Operand} {x : AV} (isSl : Bool) (cap : Nat)
    (hok : ∀ y, (s.ev y).1 = true → Ok m (s.ev y).2 (a.eval y)) (hl : optP s lo) (hh : optP s hi)
    (h1 : 0 ≤ optV s 0 lo) (h2 : optV s 0 lo ≤ optV s (lenAV x) hi) (h3 : optV s (lenAV x) hi ≤ lenAV x) (hc : lenAV x ≤ cap) (w : World) :
    (Instr.sliceBounds isSl (lenAV x) cap (lo.map a.eval) (hi.map a.eval) none).run P w = .ok ((optV s 0 lo).toNat, (optV s (lenAV x) hi).toNat, cap) w := by
  have h4 := Int.le_trans h1 h2
  have sb : ∀ (v : AV) (u : Value) (y : Nat) (code : BoundsCode), Ok m v u → v.intP → 0 ≤ v.intV → v.intV ≤ y → (Instr.sliceBound u y code).run P w = .ok v.intV.toNat w := by
    intro v u y code hv hp h0 hy
    obtain ⟨k, n, rfl⟩ := intP_inv hp
    rw [ok_v] at hv; subst hv
    simp only [AV.intV] at h0 hy ⊢
    simp [Instr.sliceBound, asIntOf, h0, hy]
  unfold Instr.sliceBounds
  cases hi with
  | none =>
    simp only [optV] at h2 h3
    cases lo with
    | none => simp [optV]
    | some lo =>
      simp only [optV, optP] at *
      simp [sb _ _ (lenAV x) .sliceB (hok lo hl.1) hl.2 h1 h2]
  | some hi =>
    simp only [optP] at hh
    simp only [optV] at h2 h3
    simp only [optV] at h4
    have e1 : (Instr.sliceBound (a.eval hi) cap (if isSl then .sliceAcap else .sliceAlen)).run P w = .ok (s.ev hi).2.intV.toNat w := sb _ _ _ _ (hok hi hh.1) hh.2 (by omega) (by omega)
    cases lo with
    | none => simp [optV, e1]
    | some lo =>
      simp only [optV, optP] at *
      have e2 : (Instr.sliceBound (a.eval lo) (s.ev hi).2.intV.toNat .sliceB).run P w = .ok (s.ev lo).2.intV.toNat w := sb _ _ _ _ (hok lo hl.1) hl.2 h1 (by omega)
      simp [e1, e2]

theorem RdRow.cut {r : Nat → Option Obj} {E : Nat} {rows : List (List Cell)} {A : Option Addr} {n c l h : Nat} (hx : RdRow r E rows (.slice A n c)) (hl : l ≤ h) (hh : h ≤ rows.length) :
    RdRow r E ((rows.drop l).take (h - l)) (.slice (if c = l then A else A.map (·.add (l * E))) (h - l) (c - l)) := by
  obtain ⟨A', c', hu, hn, hr⟩ := hx
  obtain ⟨rfl, rfl, rfl⟩ : A = A' ∧ n = rows.length ∧ c = c' := by simpa using hu
  have hlen : ((rows.drop l).take (h - l)).length = h - l := by simp; omega
  refine ⟨_, c - l, by rw [hlen], by rw [hlen]; omega, fun i row hi => ?_⟩
  have hil : i < h - l := by
    have := (List.getElem?_eq_some_iff.1 hi).1
    omega
  have hi' : rows[l + i]? = some row := by
    rw [List.getElem?_take_of_lt hil, List.getElem?_drop] at hi; exact hi
  obtain ⟨b, o, hA, hE, hj⟩ := hr _ _ hi'
  refine ⟨b, o + l * E, ?_, hE, fun j x hx => ?_⟩
  · rw [if_neg (by omega), hA]
    simp only [Option.map_some, Addr.add]
    split <;> simp_all
  · obtain ⟨y, hy, hc⟩ := hj j x hx
    exact ⟨y, by rw [← hy]; congr 1; rw [Nat.add_mul]; omega, hc⟩

theorem OwnSl.cut {ob : Option Nat} {z : Nat → Nat} {E lo n l h : Nat} {A : Option Addr} {n' c : Nat} (hx : OwnSl ob z E lo n (.slice A n' c)) (hl : l ≤ h) (hh : h ≤ n) :
    OwnSl ob z E (lo + l) (h - l) (.slice (if c = l then A else A.map (·.add (l * E))) (h - l) (c - l)) := by
  obtain ⟨A', c', hu, hn, hr⟩ := hx
  obtain ⟨rfl, rfl, rfl⟩ : A = A' ∧ n' = n ∧ c = c' := by simpa using hu
  refine ⟨_, c - l, rfl, by omega, ?_⟩
  rcases hr with ⟨b, h1, rfl, h3⟩ | ⟨rfl, rfl⟩
  · by_cases hcl : c = l
    · exact .inr ⟨by omega, by omega⟩
    · refine .inl ⟨b, h1, ?_, ?_⟩
      · rw [if_neg hcl]
        simp only [Option.map_some, Addr.add]
        split
        · rename_i h0; rw [Nat.add_mul, h0]; rfl
        · rw [Nat.add_mul]
      · rw [show lo + l + (c - l) = lo + c by omega]; exact h3
  · exact .inr ⟨by omega, by omega⟩

theorem isSl_len {m : Mem} {x : AV} {A : Option Addr} {n c : Nat} (hx : Ok m x (.slice A n c)) (h : isSlAV x) : n = lenAV x ∧ n ≤ c := by
  cases x <;> simp only [isSlAV] at h
  case v x =>
    rw [ok_v, isSl_v h] at hx; rw [isSl_v h]; simp at hx; simp [lenAV, hx]
  case rd => simp only [Ok] at hx; obtain ⟨A, c, h1, h2, _⟩ := hx; simp at h1; simp only [lenAV]; omega
  case sl => simp only [Ok] at hx; obtain ⟨A, c, h1, h2, _⟩ := hx; simp at h1; simp only [lenAV]; omega
  case sub => simp only [Ok] at hx; obtain ⟨A, c, h1, h2, _⟩ := hx; simp at h1; simp only [lenAV]; omega

theorem cut_run {m : Mem} {s : St} {a : Act} {t : TypeId} {lo hi : Option Operand} {x : AV} {u : Value} (hx : Ok m x u)
    (hok : ∀ y, (s.ev y).1 = true → Ok m (s.ev y).2 (a.eval y)) (hl : optP s lo) (hh : optP s hi) (hp : cutP P t x (optV s 0 lo) (optV s (lenAV x) hi)) :
    ∃ z, Ok m (cutAV x (optV s 0 lo).toNat (optV s (lenAV x) hi).toNat) z ∧ ∀ w, (Instr.sliceAt t u (lo.map a.eval) (hi.map a.eval) none).run P w = .ok z w := by
  obtain ⟨h0, h1, h2, h3⟩ := hp
  have hb := fun (isSl : Bool) (cap : Nat) (hc : lenAV x ≤ cap) (w : World) => bounds_run (P := P) (x := x) isSl cap hok hl hh h1 h2 h3 hc w
  have l1 : (optV s 0 lo).toNat ≤ (optV s (lenAV x) hi).toNat := by omega
  have l2 : (optV s (lenAV x) hi).toNat ≤ lenAV x := by omega
  generalize (optV s 0 lo).toNat = l at *
  generalize (optV s (lenAV x) hi).toNat = h at *
  split at h0
  · rename_i hs
    obtain ⟨str0, rfl⟩ := strP_inv h0
    rw [ok_v] at hx; subst hx
    refine ⟨_, ok_v.2 rfl, fun w => ?_⟩
    have e : lenAV (.v (.string str0)) = str0.size := by simp only [lenAV, bsize]
    have hb' := hb false str0.size (by rw [e]; exact Nat.le_refl _) w
    rw [e] at hb'
    simp only [Instr.sliceAt, Sem.run_bind, run_underlying (strT_spec hs), Result.andThen_ok, Instr.slice]
    simp [run_underlying (strT_spec hs), hb']
    rw [str_of]
    congr 1
    simp [ByteArray.data_extract]
  · obtain ⟨hsl, hE, hT⟩ := h0
    cases hs : slT P t with
    | none => rw [hs] at hT; simp at hT
    | some p =>
      obtain ⟨e, E⟩ := p
      rw [hs] at hE
      simp only [Option.map_some, Option.getD_some] at hE
      obtain ⟨ht, i, hi', rfl⟩ := slT_spec hs
      obtain ⟨A, c, rfl⟩ := isSl_ok hx hsl
      obtain ⟨hn, hnc⟩ := isSl_len hx hsl
      have run : ∀ w, (Instr.sliceAt t (.slice A (lenAV x) c) (lo.map a.eval) (hi.map a.eval) none).run P w = .ok (.slice (if c = l then A else A.map (·.add (l * i.size))) (h - l) (c - l)) w := by
        intro w
        simp only [Instr.sliceAt, Sem.run_bind, run_underlying ht, Result.andThen_ok, Instr.slice]
        simp [run_underlying ht, hb true c hnc w, run_sizeOf hi']
      refine ⟨_, ?_, run⟩
      cases x <;> simp only [isSlAV] at hsl
      case v x =>
        obtain rfl := isSl_v hsl
        rw [ok_v] at hx
        simp only [lenAV] at l2 hx
        have : h = 0 := by omega
        have : l = 0 := by omega
        subst_vars
        simp at hx
        obtain ⟨rfl, rfl⟩ := hx
        simp only [cutAV]
        rw [ok_v]; simp
      case rd E' rows =>
        simp only [eszAV] at hE; subst hE
        simp only [Ok, cutAV] at hx ⊢
        exact hx.cut l1 l2
      case sl k E' lo' n' =>
        simp only [eszAV] at hE; subst hE
        simp only [Ok, cutAV] at hx ⊢
        exact hx.cut l1 l2
      case sub k i' j' E' lo' n' =>
        simp only [eszAV] at hE; subst hE
        simp only [Ok, cutAV] at hx ⊢
        exact hx.cut l1 l2

end Go.Eng

/- The engine, part E: addresses and loads. -/
set_option linter.unusedVariables false
set_option linter.unusedSimpArgs false
namespace Go.Eng
open Go

variable {P : Program}

theorem add_none (b o n : Nat) : (⟨b, o, none⟩ : Addr).add n = ⟨b, o + n, none⟩ := by
  unfold Addr.add; split <;> simp_all

/-! ### Addresses of fields and elements -/
def fldAV (o : Nat) : AV → AV
  | .ptr k E i j => .ptr k E i (j + o)
  | .rp row j => .rp row (j + o)
  | .rq cells j => .rq cells (j + o)
  | .subp k i j E l q => .subp k i j E l (q + o)
  | _ => .bad
def isPtrAV : AV → Prop
  | .ptr .. => True
  | .rp .. => True
  | .rq .. => True
  | .subp .. => True
  | _ => False
theorem isPtr_ptr (k E i j : Nat) : isPtrAV (.ptr k E i j) = True := rfl
theorem isPtr_rp (row : List Cell) (j : Nat) : isPtrAV (.rp row j) = True := rfl
theorem isPtr_rq (cells : List AV) (j : Nat) : isPtrAV (.rq cells j) = True := rfl
theorem isPtr_subp (k i j E l q : Nat) : isPtrAV (.subp k i j E l q) = True := rfl
theorem fldAV_ptr (o k E i j : Nat) : fldAV o (.ptr k E i j) = .ptr k E i (j + o) := rfl
theorem fldAV_rp (o : Nat) (row : List Cell) (j : Nat) : fldAV o (.rp row j) = .rp row (j + o) := rfl
theorem fldAV_rq (o : Nat) (cells : List AV) (j : Nat) : fldAV o (.rq cells j) = .rq cells (j + o) := rfl
theorem fldAV_subp (o k i j E l q : Nat) : fldAV o (.subp k i j E l q) = .subp k i j E l (q + o) := rfl

theorem isPtr_ok {m : Mem} {x : AV} {u : Value} (hx : Ok m x u) (h : isPtrAV x) : ∃ b o, u = .pointer (some ⟨b, o, none⟩) ∧ ∀ n, Ok m (fldAV n x) (.pointer (some ⟨b, o + n, none⟩)) := by
  cases x <;> simp only [isPtrAV] at h
  case ptr k E i j =>
    simp only [Ok] at hx
    obtain ⟨b, h1, h2⟩ := hx
    exact ⟨b, _, h2, fun n => by simp only [fldAV, Ok]; exact ⟨b, h1, by rw [Nat.add_assoc]⟩⟩
  case subp k i j E l q =>
    simp only [Ok] at hx
    obtain ⟨b, h1, h2⟩ := hx
    exact ⟨b, _, h2, fun n => by simp only [fldAV, Ok]; exact ⟨b, h1, by rw [Nat.add_assoc]⟩⟩
  case rp row j =>
    simp only [Ok] at hx
    obtain ⟨b, o, h1, h2⟩ := hx
    exact ⟨b, o + j, h1, fun n => by simp only [fldAV, Ok]; exact ⟨b, o, by rw [Nat.add_assoc], h2⟩⟩
  case rq cells j =>
    simp only [Ok] at hx
    obtain ⟨b, o, us, h1, h2, h3⟩ := hx
    exact ⟨b, o + j, h1, fun n => by simp only [fldAV, Ok]; exact ⟨b, o, us, by rw [Nat.add_assoc], h2, h3⟩⟩

theorem fld_run {m : Mem} {t : TypeId} {f : Nat} {x : AV} {u : Value} (hx : Ok m x u) (h1 : (fldT P t f).isSome = true) (h2 : isPtrAV x) :
    ∃ z, Ok m (fldAV ((fldT P t f).getD 0) x) z ∧ ∀ w, (Instr.fieldAt t u f).run P w = .ok z w := by
  obtain ⟨b, o, rfl, hz⟩ := isPtr_ok hx h2
  refine ⟨_, hz _, fun w => ?_⟩
  unfold fldT at h1 ⊢
  split at h1
  · rename_i fs hfs
    split at h1
    · rename_i fd hfd
      split at h1
      · rename_i n hn
        have hsz : ∃ i, P.info? fd.type = some i ∧ i.size = n + 1 := by
          unfold szT at hn
          cases hi : P.info? fd.type with
          | none => rw [hi] at hn; simp at hn
          | some i => rw [hi] at hn; simp at hn; exact ⟨i, rfl, hn⟩
        obtain ⟨i, hi, hs⟩ := hsz
        simp only [Instr.fieldAt, Sem.run_bind, run_underlying hfs, Result.andThen_ok]
        simp [hfd, Instr.sureAddr, fieldPlace, run_sizeOf hi, hs, add_none, hn]
      · simp at h1
    · simp at h1
  · simp at h1

/-- The address of element n. -/
def ixaAV (x : AV) (n : Nat) : AV :=
  match x with
  | .rd E rows => .rp (rows.getD n []) 0
  | .sl k E lo _ => .ptr k E (lo + n) 0
  | .sub k i j E lo _ => .subp k i j E (lo + n) 0
  | .ptr k E _ _ => .ptr k E n 0
  | _ => .bad
theorem ixaAV_rd (E : Nat) (rows : List (List Cell)) (n : Nat) : ixaAV (.rd E rows) n = .rp (rows.getD n []) 0 := rfl
theorem ixaAV_sl (k E lo m n : Nat) : ixaAV (.sl k E lo m) n = .ptr k E (lo + n) 0 := rfl
theorem ixaAV_sub (k i j E lo m n : Nat) : ixaAV (.sub k i j E lo m) n = .subp k i j E (lo + n) 0 := rfl
theorem ixaAV_ptr (k E i j n : Nat) : ixaAV (.ptr k E i j) n = .ptr k E n 0 := rfl
/-- What an index needs: a slice's length or an array's. -/
def ixaP (P : Program) (t : TypeId) (x : AV) (i : AV) : Prop :=
  i.intP ∧ 0 ≤ i.intV ∧ (match x with
    | .ptr _ E a j => a = 0 ∧ j = 0 ∧ ∃ k e, arT P t = some (k, e, E) ∧ 2 ≤ k ∧ i.intV < k
    | x => (slT P t).isSome = true ∧ isSlAV x ∧ eszAV (((slT P t).map (·.2)).getD 0) x ∧ i.intV < lenAV x)
theorem ixaP_rd (t : TypeId) (E : Nat) (rows : List (List Cell)) (i : AV) : ixaP P t (.rd E rows) i = (i.intP ∧ 0 ≤ i.intV ∧ (slT P t).isSome = true ∧ True ∧ E = ((slT P t).map (·.2)).getD 0 ∧ i.intV < rows.length) := rfl
theorem ixaP_sl (t : TypeId) (k E lo n : Nat) (i : AV) : ixaP P t (.sl k E lo n) i = (i.intP ∧ 0 ≤ i.intV ∧ (slT P t).isSome = true ∧ True ∧ E = ((slT P t).map (·.2)).getD 0 ∧ i.intV < n) := rfl
theorem ixaP_sub (t : TypeId) (k i' j E lo n : Nat) (i : AV) : ixaP P t (.sub k i' j E lo n) i = (i.intP ∧ 0 ≤ i.intV ∧ (slT P t).isSome = true ∧ True ∧ E = ((slT P t).map (·.2)).getD 0 ∧ i.intV < n) := rfl
theorem ixaP_ptr (t : TypeId) (k E a j : Nat) (i : AV) : ixaP P t (.ptr k E a j) i = (i.intP ∧ 0 ≤ i.intV ∧ a = 0 ∧ j = 0 ∧ ∃ k e, arT P t = some (k, e, E) ∧ 2 ≤ k ∧ i.intV < k) := rfl

theorem ixa_run {m : Mem} {t : TypeId} {x i : AV} {u v : Value} (hx : Ok m x u) (hi : Ok m i v) (hp : ixaP P t x i) :
    ∃ z, Ok m (ixaAV x i.intV.toNat) z ∧ ∀ w, (Instr.indexAt t u v).run P w = .ok z w := by
  obtain ⟨p1, p2, p3⟩ := hp
  obtain ⟨kk, n, rfl⟩ := intP_inv p1
  rw [ok_v] at hi; subst hi
  simp only [AV.intV] at p2 p3 ⊢
  have viaSlice : ∀ (A : Option Addr) (len c : Nat) (e : TypeId) (E b o : Nat), slT P t = some (e, E) → A = some ⟨b, o, none⟩ → n < len →
      ∀ w, (Instr.indexAt t (.slice A len c) (.int kk n)).run P w = .ok (.pointer (some ⟨b, o + n.toNat * E, none⟩)) w := by
    intro A len c e E b o ht hA hn w
    obtain ⟨hu, i, hi, rfl⟩ := slT_spec ht
    subst hA
    simp only [Instr.indexAt, asIntOf, Sem.run_bind, Sem.run_pure, Result.andThen_ok, run_underlying hu]
    simp [run_underlying hu, run_sizeOf hi, p2, hn, add_none]
  have sl : ∀ (x : AV), (slT P t).isSome = true → isSlAV x → eszAV (((slT P t).map (·.2)).getD 0) x → n < lenAV x → Ok m x u → ∃ z, Ok m (ixaAV x n.toNat) z ∧ ∀ w, (Instr.indexAt t u (.int kk n)).run P w = .ok z w := by
    intro x q1 q2 q3 q4 hx
    cases ht : slT P t with
    | none => rw [ht] at q1; simp at q1
    | some p =>
      obtain ⟨e, E⟩ := p
      rw [ht] at q3
      simp only [Option.map_some, Option.getD_some] at q3
      have own : ∀ ob lo len (hh : OwnSl ob m.z E lo len u), n < len → ∃ b, ob = some b ∧ ∀ w, (Instr.indexAt t u (.int kk n)).run P w = .ok (.pointer (some ⟨b, (lo + n.toNat) * E + 0, none⟩)) w := by
        intro ob lo len hh hn
        obtain ⟨A, c, rfl, hc, h | h⟩ := hh
        · obtain ⟨b, h1, h2, h3⟩ := h
          refine ⟨b, h1, fun w => ?_⟩
          rw [viaSlice A len c e E b (lo * E) ht h2 hn w, Nat.add_mul]; rfl
        · omega
      cases x <;> simp only [isSlAV] at q2
      case v x =>
        obtain rfl := isSl_v q2
        simp only [lenAV] at q4; omega
      case rd E' rows =>
        simp only [eszAV] at q3; subst q3
        simp only [lenAV] at q4
        simp only [Ok] at hx
        obtain ⟨A, c, rfl, hc, hr⟩ := hx
        have hlt : n.toNat < rows.length := by omega
        obtain ⟨b, o, hA, hE, hj⟩ := hr n.toNat (rows.getD n.toNat []) (by simp [List.getD_eq_getElem?_getD, hlt])
        refine ⟨_, ?_, viaSlice A _ c e E' b o ht hA q4⟩
        simp only [ixaAV, Ok]
        exact ⟨b, o + n.toNat * E', rfl, hj⟩
      case sl k E' lo len =>
        simp only [eszAV] at q3; subst q3
        simp only [Ok, lenAV] at hx q4
        obtain ⟨b, h1, h2⟩ := own _ _ _ hx q4
        exact ⟨_, by simp only [ixaAV, Ok]; exact ⟨b, h1, rfl⟩, h2⟩
      case sub k i j E' lo len =>
        simp only [eszAV] at q3; subst q3
        simp only [Ok, lenAV] at hx q4
        obtain ⟨b, h1, h2⟩ := own _ _ _ hx q4
        exact ⟨_, by simp only [ixaAV, Ok]; exact ⟨b, h1, rfl⟩, h2⟩
  cases x
  case ptr k E a j =>
    obtain ⟨rfl, rfl, len, e, ht, hl, hn⟩ := p3
    simp only [Ok] at hx
    obtain ⟨b, h1, rfl⟩ := hx
    refine ⟨_, by simp only [ixaAV, Ok]; exact ⟨b, h1, rfl⟩, fun w => ?_⟩
    obtain ⟨hu, i, hi, rfl⟩ := arT_spec ht
    simp only [Instr.indexAt, asIntOf, Sem.run_bind, Sem.run_pure, Result.andThen_ok, run_underlying hu]
    simp [run_underlying hu, run_sizeOf hi, p2, hn, add_none, Instr.sureAddr]
  all_goals exact sl _ p3.1 p3.2.1 p3.2.2.1 p3.2.2.2 hx

/-! ### Loads -/
def cellAV (k i j : Nat) : Cell → AV
  | .v x => .v x
  | .s _ E rows => .sub k i j E 0 rows.length
def roAV : Cell → AV
  | .v x => .v x
  | .s _ E rows => .rd E (rows.map (·.map .v))
def rowAVs (k i : Nat) : Nat → List Cell → List AV
  | _, [] => []
  | j, c :: r => cellAV k i j c :: rowAVs k i (j + 1) r
theorem cellAV_v (k i j : Nat) (x : Value) : cellAV k i j (.v x) = .v x := rfl
theorem cellAV_s (k i j : Nat) (e : TypeId) (E : Nat) (rows : List (List Value)) : cellAV k i j (.s e E rows) = .sub k i j E 0 rows.length := rfl
theorem roAV_v (x : Value) : roAV (.v x) = .v x := rfl
theorem roAV_s (e : TypeId) (E : Nat) (rows : List (List Value)) : roAV (.s e E rows) = .rd E (rows.map (·.map .v)) := rfl
theorem rowAVs_nil (k i j : Nat) : rowAVs k i j [] = [] := rfl
theorem rowAVs_cons (k i j : Nat) (c : Cell) (r : List Cell) : rowAVs k i j (c :: r) = cellAV k i j c :: rowAVs k i (j + 1) r := rfl
theorem rowAVs_get (k i : Nat) : ∀ (r : List Cell) (j n : Nat), (rowAVs k i j r)[n]? = (r[n]?).map (cellAV k i (j + n))
  | [], _, _ => by simp [rowAVs]
  | c :: r, j, 0 => by simp [rowAVs]
  | c :: r, j, n + 1 => by
    simp only [rowAVs, List.getElem?_cons_succ, rowAVs_get k i r (j + 1) n]
    rw [show j + 1 + n = j + (n + 1) by omega]
theorem rowAVs_length (k i : Nat) : ∀ (r : List Cell) (j : Nat), (rowAVs k i j r).length = r.length
  | [], _ => rfl
  | c :: r, j => by simp [rowAVs, rowAVs_length k i r (j + 1)]

/-- A part of some cells: one, or several as a struct. -/
def pick1 (agg : Bool) (n : Nat) (xs : List AV) (j : Nat) : AV := if agg then .agg ((xs.drop j).take n) else xs.getD j .bad
def subCell : List (List Cell) → Nat → Nat → Nat → Nat → AV
  | rows, i, j, l, q => match (rows.getD i [])[j]? with
    | some (.s _ _ rs) => match (rs.getD l [])[q]? with
      | some x => .v x
      | none => .bad
    | _ => .bad
def loadAV (P : Program) (h : Heap) (t : TypeId) : AV → AV
  | .ptr k E i j => match look? h k with
    | some (.box _ cells) => pick1 (isAggT P t) ((szT P t).getD 0) cells (i * E + j)
    | some (.row _ _ rows) => pick1 (isAggT P t) ((szT P t).getD 0) (rowAVs k i 0 (rows.getD i [])) j
    | _ => .bad
  | .rp row j => pick1 (isAggT P t) ((szT P t).getD 0) (row.map roAV) j
  | .rq cells j => pick1 (isAggT P t) ((szT P t).getD 0) cells j
  | .subp k i j E l q => match look? h k with
    | some (.row _ _ rows) => pick1 (isAggT P t) ((szT P t).getD 0) (((match (rows.getD i [])[j]? with | some (.s _ _ rs) => rs.getD l [] | _ => [])).map .v) q
    | _ => .bad
  | _ => .bad
def szOk (agg : Bool) (n len j : Nat) : Prop := if agg = true then j + n ≤ len else j < len
def loadP (P : Program) (h : Heap) (t : TypeId) : AV → Prop
  | .ptr k E i j => match look? h k with
    | some (.box _ cells) => szOk (isAggT P t) ((szT P t).getD 0) cells.length (i * E + j)
    | some (.row _ E' rows) => E' = E ∧ i < rows.length ∧ szOk (isAggT P t) ((szT P t).getD 0) (rows.getD i []).length j
    | _ => False
  | .rp row j => szOk (isAggT P t) ((szT P t).getD 0) row.length j
  | .rq cells j => szOk (isAggT P t) ((szT P t).getD 0) cells.length j
  | .subp k i j E l q => match look? h k with
    | some (.row _ E' rows) => i < rows.length ∧ (match (rows.getD i [])[j]? with | some (.s _ E2 rs) => E2 = E ∧ l < rs.length ∧ szOk (isAggT P t) ((szT P t).getD 0) (rs.getD l []).length q | _ => False)
    | _ => False
  | _ => False

theorem loadVar_run {t : TypeId} {b o : Nat} (cs : List Value) (ht : (szT P t).isSome = true) (hun : (P.underlying t).isSome = true) (agg : Bool) (hagg : isAggT P t = agg)
    (hl : szOk agg ((szT P t).getD 0) cs.length 0) {w : World} (h : ∀ j v, cs[j]? = some v → w.cell? ⟨b, o + j, none⟩ = some v) :
    (Instr.loadAt t (.pointer (some ⟨b, o, none⟩))).run P w = .ok (if agg = true then .agg (cs.take ((szT P t).getD 0)).toArray else cs.getD 0 undef) w := by
  unfold szT at *
  cases hi : P.info? t with
  | none => rw [hi] at ht; simp at ht
  | some i =>
    rw [hi] at hl
    simp only [Option.map_some, Option.getD_some] at hl ⊢
    cases hu : P.underlying t with
    | none => rw [hu] at hun; simp at hun
    | some d =>
      have hag : (isAgg t).run P w = .ok agg w := by
        unfold isAgg
        simp only [Sem.run_bind, run_underlying hu, Result.andThen_ok]
        unfold isAggT at hagg
        rw [hu] at hagg
        cases d <;> simp_all
      simp only [Instr.loadAt, Instr.sureAddr, loadVar, Sem.run_bind, Sem.run_pure, Result.andThen_ok, hag]
      cases agg with
      | true =>
        simp only [szOk, if_true, Nat.zero_add] at hl
        have hlen : (cs.take i.size).length = i.size := by simp; omega
        have := run_loadCells_list (P := P) (w := w) ⟨b, o, none⟩ (cs.take i.size) (fun j v hj => by
          rw [add_none]; refine h j v ?_
          have hjl := (List.getElem?_eq_some_iff.1 hj).1
          rw [hlen] at hjl
          rwa [List.getElem?_take_of_lt hjl] at hj)
        rw [hlen] at this
        simp [run_sizeOf hi, this]
      | false =>
        simp only [szOk, Bool.false_eq_true, if_false] at hl ⊢
        have : cs[0]? = some (cs.getD 0 undef) := by simp [List.getD_eq_getElem?_getD, hl]
        have hc := h 0 _ this
        simp only [Nat.add_zero] at hc
        simp [load, Sem.run, hc]

theorem pick1_ok {m : Mem} {agg : Bool} {n j : Nat} {xs : List AV} {us : List Value} (h : Oks m xs us) (hl : szOk agg n xs.length j) :
    Ok m (pick1 agg n xs j) (if agg = true then .agg ((us.drop j).take n).toArray else (us.drop j).getD 0 undef) := by
  cases agg with
  | true =>
    simp only [pick1, if_true, Ok]
    refine ⟨_, rfl, Oks.of_get (by simp [h.length]) fun i x u hx hu => ?_⟩
    simp only [szOk, if_true] at hl
    have hi : i < n := by
      have := (List.getElem?_eq_some_iff.1 hx).1
      simp at this; omega
    rw [List.getElem?_take_of_lt hi, List.getElem?_drop] at hx hu
    obtain ⟨u', hu', hok⟩ := h.get hx
    rw [hu'] at hu; simp at hu; rw [← hu]; exact hok
  | false =>
    simp only [szOk, Bool.false_eq_true, if_false] at hl
    simp only [pick1, Bool.false_eq_true, if_false]
    have hx : xs[j]? = some (xs.getD j .bad) := by simp [List.getD_eq_getElem?_getD, hl]
    obtain ⟨u, hu, hok⟩ := h.get hx
    have : (us.drop j).getD 0 undef = u := by simp [List.getD_eq_getElem?_getD, hu]
    rw [this]; exact hok

theorem ro_cell {m : Mem} {w w' : World} {h : Heap} {nk : Nat} (hc : Core m w h nk) (hb : RowKit.Below w.heap.size w w') {b o : Nat} {y : Value} (hy : cellIn m.r b o = some y) : w'.cell? ⟨b, o, none⟩ = some y := by
  unfold cellIn at hy
  split at hy
  · rename_i c e fr hr
    obtain ⟨h1, _⟩ := hc.ro b _ hr
    have : w'.heap[b]? = some (.cells c e fr) := by rw [hb.block b ((Array.getElem?_eq_some_iff.1 h1).1)]; exact h1
    simp [World.cell?, this, hy]
  · simp at hy
theorem own_cell {w w' : World} (hb : RowKit.Below w.heap.size w w') {b o : Nat} {vs : Array Value} {e : TypeId} {fr : Nat × Nat} {y : Value} (hv : w.heap[b]? = some (.cells vs e fr)) (hy : vs[o]? = some y) : w'.cell? ⟨b, o, none⟩ = some y := by
  have : w'.heap[b]? = some (.cells vs e fr) := by rw [hb.block b ((Array.getElem?_eq_some_iff.1 hv).1)]; exact hv
  simp [World.cell?, this, hy]

theorem RdFlat.ro {r : Nat → Option Obj} {E : Nat} {rows : List (List Value)} {u : Value} (h : RdFlat r E rows u) : RdRow r E (rows.map (·.map .v)) u := by
  obtain ⟨A, c, hu, hc, hr⟩ := h
  refine ⟨A, c, by simpa using hu, by simpa using hc, fun i row hi => ?_⟩
  simp only [List.getElem?_map, Option.map_eq_some_iff] at hi
  obtain ⟨row', hi, rfl⟩ := hi
  obtain ⟨b, o, h1, h2, h3⟩ := hr i row' hi
  refine ⟨b, o, h1, by simpa using h2, fun j x hj => ?_⟩
  simp only [List.getElem?_map, Option.map_eq_some_iff] at hj
  obtain ⟨x', hj, rfl⟩ := hj
  exact ⟨x', h3 j x' hj, rfl⟩
theorem roAV_ok {m : Mem} {c : Cell} {y : Value} (h : RdCell m.r c y) : Ok m (roAV c) y := by
  cases c with
  | v x => simp only [RdCell] at h; simp only [roAV, Ok]; exact h
  | s e E rows => simp only [RdCell] at h; simp only [roAV, Ok]; exact h.ro
theorem cellAV_ok {m : Mem} {w : World} {k i j : Nat} {c : Cell} {y : Value} (h : CellOk m w (.sub k i j) c y) : Ok m (cellAV k i j c) y := by
  cases c with
  | v x => simp only [CellOk] at h; simp only [cellAV, Ok]; exact h
  | s e E rows => simp only [CellOk] at h; simp only [cellAV, Ok]; exact h.1

/-- The cells that lie at a place: enough of them for what is loaded. -/
theorem load_from {m : Mem} {w : World} {t : TypeId} {b o j : Nat} {xs : List AV} {us : List Value} (hT : (szT P t).isSome = true ∧ (P.underlying t).isSome = true)
    (hus : Oks m xs us) (hsz : szOk (isAggT P t) ((szT P t).getD 0) xs.length j) (hcell : ∀ w', RowKit.Below w.heap.size w w' → ∀ n v, us[n]? = some v → w'.cell? ⟨b, o + n, none⟩ = some v) :
    ∃ z, Ok m (pick1 (isAggT P t) ((szT P t).getD 0) xs j) z ∧ ∀ w', RowKit.Below w.heap.size w w' → (Instr.loadAt t (.pointer (some ⟨b, o + j, none⟩))).run P w' = .ok z w' := by
  refine ⟨_, pick1_ok hus hsz, fun w' hb => ?_⟩
  refine loadVar_run (us.drop j) hT.1 hT.2 _ rfl ?_ fun n v hn => ?_
  · rw [List.length_drop, hus.length]
    unfold szOk at hsz ⊢
    split <;> simp_all <;> omega
  · rw [List.getElem?_drop] at hn
    rw [Nat.add_assoc]; exact hcell w' hb (j + n) v hn

theorem load_run {m : Mem} {w : World} {h : Heap} {nk : Nat} (hc : Core m w h nk) {t : TypeId} {x : AV} {u : Value} (hx : Ok m x u) (hp : loadP P h t x) (hT : (szT P t).isSome = true ∧ (P.underlying t).isSome = true) :
    ∃ z, Ok m (loadAV P h t x) z ∧ ∀ w', RowKit.Below w.heap.size w w' → (Instr.loadAt t u).run P w' = .ok z w' := by
  cases x <;> simp only [loadP] at hp
  case rp row j =>
    simp only [Ok] at hx
    obtain ⟨b, o, rfl, hr⟩ := hx
    have hex : ∃ us : List Value, us.length = row.length ∧ ∀ (i : Nat) c, row[i]? = some c → ∃ y, us[i]? = some y ∧ cellIn m.r b (o + i) = some y ∧ RdCell m.r c y := by
      refine ⟨(List.range row.length).map (fun i => (cellIn m.r b (o + i)).getD undef), by simp, fun i c hi => ?_⟩
      obtain ⟨y, hy, hc⟩ := hr i c hi
      have hl := (List.getElem?_eq_some_iff.1 hi).1
      exact ⟨y, by simp [List.getElem?_range hl, hy], hy, hc⟩
    obtain ⟨us, hlen, hus⟩ := hex
    refine load_from (xs := row.map roAV) (us := us) hT ?_ (by simpa using hp) ?_
    · refine Oks.of_get (by simpa using hlen) fun i x u hx hu => ?_
      simp only [List.getElem?_map, Option.map_eq_some_iff] at hx
      obtain ⟨c, hi, rfl⟩ := hx
      obtain ⟨y, hy, _, hc⟩ := hus i c hi
      rw [hy] at hu; simp at hu; subst hu; exact roAV_ok hc
    · intro w' hb n v hn
      have hl : n < row.length := by rw [← hlen]; exact (List.getElem?_eq_some_iff.1 hn).1
      obtain ⟨y, hy, hcell, _⟩ := hus n row[n] (by simp [hl])
      rw [hy] at hn; simp at hn; subst hn
      exact ro_cell hc hb hcell
  case rq cells j =>
    simp only [Ok] at hx
    obtain ⟨b, o, us, rfl, hr, hus⟩ := hx
    simp only [loadAV]
    exact load_from hT hus hp fun w' hb n v hn => ro_cell hc hb (hr n v hn)
  case ptr k E i j =>
    simp only [Ok] at hx
    obtain ⟨b, hbk, rfl⟩ := hx
    cases hk : look? h k with
    | none => rw [hk] at hp; exact hp.elim
    | some ch =>
      rw [hk] at hp
      have hch := hc.chunk k ch hk
      cases ch with
      | pin _ _ _ => exact hp.elim
      | fact _ _ => exact hp.elim
      | box e cells =>
        obtain ⟨b', vs, fr, h1, h2, h3, h4⟩ := hch
        rw [hbk] at h1; simp at h1; subst h1
        have := load_from (P := P) (t := t) (b := b) (o := 0) (j := i * E + j) hT h4 hp (fun w' hb n v hn => by
          rw [Nat.zero_add]; exact own_cell hb h2 (by simpa using hn))
        simp only [loadAV, hk]
        simpa using this
      | row e E' rows =>
        obtain ⟨rfl, hi, hsz⟩ := hp
        rcases hch with ⟨h1, _⟩ | ⟨b', vs, fr, h1, h2, h3, h4, h5⟩
        · rw [hbk] at h1; simp at h1
        · rw [hbk] at h1; simp at h1; subst h1
          have hrow : rows[i]? = some (rows.getD i []) := by simp [List.getD_eq_getElem?_getD, hi]
          obtain ⟨hE, hcells⟩ := h5 i _ hrow
          generalize rows.getD i [] = row at *
          have hle : i * E' + row.length ≤ vs.size := by
            have : (i + 1) * E' ≤ rows.length * E' := Nat.mul_le_mul_right _ hi
            rw [Nat.add_mul] at this
            omega
          have hlen : ((vs.toList.drop (i * E')).take row.length).length = row.length := by simp; omega
          have hus : Oks m (rowAVs k i 0 row) ((vs.toList.drop (i * E')).take row.length) := by
            refine Oks.of_get (by rw [hlen, rowAVs_length]) fun n x u hx hu => ?_
            rw [rowAVs_get, Option.map_eq_some_iff] at hx
            obtain ⟨c, hcn, rfl⟩ := hx
            obtain ⟨y, hy, hco⟩ := hcells n c hcn
            have hn := (List.getElem?_eq_some_iff.1 hcn).1
            rw [List.getElem?_take_of_lt hn, List.getElem?_drop] at hu
            have : vs[i * E' + n]? = some u := by simpa using hu
            rw [hy] at this; simp at this; subst this
            simpa using cellAV_ok hco
          have := load_from (P := P) (t := t) (b := b) (o := i * E') (j := j) hT hus (by rw [rowAVs_length]; exact hsz) (fun w' hb n v hn => by
            have hn' : n < row.length := by rw [← hlen]; exact (List.getElem?_eq_some_iff.1 hn).1
            rw [List.getElem?_take_of_lt hn', List.getElem?_drop] at hn
            exact own_cell hb h2 (by simpa using hn))
          simp only [loadAV, hk, List.getD_eq_getElem?_getD, hrow, Option.getD_some]
          exact this
  case subp k i j E l q =>
    simp only [Ok] at hx
    obtain ⟨b, hbk, rfl⟩ := hx
    cases hk : look? h k with
    | none => rw [hk] at hp; exact hp.elim
    | some ch =>
      rw [hk] at hp
      have hch := hc.chunk k ch hk
      cases ch with
      | box e cells => exact hp.elim
      | pin _ _ _ => exact hp.elim
      | fact _ _ => exact hp.elim
      | row e E' rows =>
        simp only at hp
        obtain ⟨hi, hp⟩ := hp
        cases hcj : (rows.getD i [])[j]? with
        | none => rw [hcj] at hp; exact hp.elim
        | some c =>
          rw [hcj] at hp
          cases c with
          | v x => exact hp.elim
          | s e2 E2 rs =>
            obtain ⟨rfl, hl, hsz⟩ := hp
            rcases hch with ⟨_, h0⟩ | ⟨b', vs, fr, h1, h2, h3, h4, h5⟩
            · subst h0; simp at hi
            · have hrow : rows[i]? = some (rows.getD i []) := by simp [List.getD_eq_getElem?_getD, hi]
              obtain ⟨hE, hcells⟩ := h5 i _ hrow
              obtain ⟨y, hy, hsl, hn⟩ := hcells j _ hcj
              rcases hn with ⟨hn, _⟩ | ⟨b2, vs2, fr2, n1, n2, n3, n4, n5⟩
              · rw [hbk] at hn; simp at hn
              · rw [hbk] at n1; simp at n1; subst n1
                have hr2 : rs[l]? = some (rs.getD l []) := by simp [List.getD_eq_getElem?_getD, hl]
                obtain ⟨hE2, hc2⟩ := n5 l _ hr2
                have := load_from (P := P) (t := t) (b := b) (o := l * E2) (j := q) (xs := (rs.getD l []).map .v) (us := rs.getD l []) (w := w) (m := m) hT
                  (Oks.of_get (by simp) fun n x u hx hu => by
                    simp only [List.getElem?_map, Option.map_eq_some_iff] at hx
                    obtain ⟨x', hx', rfl⟩ := hx
                    rw [hx'] at hu; simp at hu; subst hu; exact ok_v.2 rfl) (by simpa using hsz)
                  (fun w' hb n v hn => own_cell hb n2 (hc2 n v hn))
                simp only [loadAV, hk, hcj]
                exact this

end Go.Eng

/- The engine, part X: cells of a value, setting some of them, struct literals. -/
set_option linter.unusedVariables false
set_option linter.unusedSimpArgs false
namespace Go.Eng
open Go

variable {P : Program}

/-! ### The cells of a value -/
def boxCells : AV → List AV
  | .agg xs => xs
  | x => [x]
def oneP : AV → Prop
  | .v (.agg _) => False
  | .v (.tuple _) => False
  | .v _ => True
  | .rd .. => True
  | .rp .. => True
  | .rq .. => True
  | .sl .. => True
  | .ptr .. => True
  | .sub .. => True
  | .subp .. => True
  | .fn .. => True
  | _ => False
def cellsP : AV → Prop
  | .agg xs => ∀ x ∈ xs, oneP x
  | x => oneP x
theorem cellsP_agg (xs : List AV) : cellsP (.agg xs) = ∀ x ∈ xs, oneP x := rfl
theorem oneP_str (l : List UInt8) : oneP (.v (str l)) = True := rfl
theorem cellsP_str (l : List UInt8) : cellsP (.v (str l)) = True := rfl
theorem boxCells_agg (xs : List AV) : boxCells (.agg xs) = xs := rfl

theorem one_ok {m : Mem} {x : AV} {u : Value} (hx : Ok m x u) (h : oneP x) : u.oneCell' = true ∧ u.cells = #[u] := by
  cases x <;> simp only [oneP] at h
  case v x => rw [ok_v] at hx; subst hx; cases u <;> first | (simp only [oneP] at h; done) | exact ⟨rfl, rfl⟩
  case rd => simp only [Ok] at hx; obtain ⟨A, c, rfl, _⟩ := hx; exact ⟨rfl, rfl⟩
  case rp => simp only [Ok] at hx; obtain ⟨b, o, rfl, _⟩ := hx; exact ⟨rfl, rfl⟩
  case rq => simp only [Ok] at hx; obtain ⟨b, o, us, rfl, _⟩ := hx; exact ⟨rfl, rfl⟩
  case sl => simp only [Ok] at hx; obtain ⟨A, c, rfl, _⟩ := hx; exact ⟨rfl, rfl⟩
  case ptr => simp only [Ok] at hx; obtain ⟨b, _, rfl⟩ := hx; exact ⟨rfl, rfl⟩
  case sub => simp only [Ok] at hx; obtain ⟨A, c, rfl, _⟩ := hx; exact ⟨rfl, rfl⟩
  case subp => simp only [Ok] at hx; obtain ⟨b, _, rfl⟩ := hx; exact ⟨rfl, rfl⟩
  case fn => simp only [Ok] at hx; obtain ⟨us, rfl, _⟩ := hx; exact ⟨rfl, rfl⟩

theorem cells_ok {m : Mem} {x : AV} {u : Value} (hx : Ok m x u) (h : cellsP x) : Oks m (boxCells x) u.cells.toList ∧ ∀ y ∈ u.cells.toList, y.oneCell' = true := by
  cases x
  case agg xs =>
    simp only [cellsP] at h
    simp only [Ok] at hx
    obtain ⟨us, rfl, hx⟩ := hx
    refine ⟨by simpa [boxCells, Value.cells] using hx, fun y hy => ?_⟩
    simp only [Value.cells] at hy
    obtain ⟨i, hi, rfl⟩ := List.getElem_of_mem hy
    have hil : i < xs.length := by rw [← hx.length]; exact hi
    obtain ⟨u, hu, hok⟩ := hx.get (show xs[i]? = some xs[i] by simp [hil])
    have := (one_ok hok (h _ (by simp))).1
    have e : us[i]? = some us[i] := by simp
    rw [e] at hu; simp at hu; simp [hu, this]
  all_goals (simp only [cellsP] at h; obtain ⟨h1, h2⟩ := one_ok hx h; rw [h2]; refine ⟨by simp only [boxCells, Oks]; exact ⟨_, _, rfl, hx, rfl⟩, fun y hy => ?_⟩; simp at hy; subst hy; exact h1)

theorem Oks.vs {m : Mem} : ∀ (vs : List Value), Oks m (vs.map .v) vs
  | [] => by simp only [List.map_nil, Oks]
  | v :: vs => by simp only [List.map_cons, Oks]; exact ⟨v, vs, rfl, ok_v.2 rfl, Oks.vs vs⟩

def zeroT (P : Program) (t : TypeId) : Option Value := (P.info? t).bind (·.zero)
def zcells (P : Program) (t : TypeId) : List Value := ((zeroT P t).map fun z => z.cells.toList).getD []

def setL {α : Type} : List α → Nat → List α → List α
  | xs, _, [] => xs
  | xs, o, v :: vs => setL (xs.set o v) (o + 1) vs
theorem setL_nil {α : Type} (xs : List α) (o : Nat) : setL xs o [] = xs := rfl
theorem setL_cons {α : Type} (xs : List α) (o : Nat) (v : α) (vs : List α) : setL xs o (v :: vs) = setL (xs.set o v) (o + 1) vs := rfl
theorem setL_length {α : Type} : ∀ (vs xs : List α) (o : Nat), (setL xs o vs).length = xs.length
  | [], _, _ => rfl
  | v :: vs, xs, o => by rw [setL, setL_length]; simp
theorem setL_get {α : Type} : ∀ (vs xs : List α) (o i : Nat), o + vs.length ≤ xs.length → (setL xs o vs)[i]? = if o ≤ i ∧ i < o + vs.length then vs[i - o]? else xs[i]?
  | [], xs, o, i, h => by simp only [setL, List.length_nil]; rw [if_neg (by omega)]
  | v :: vs, xs, o, i, h => by
    simp only [List.length_cons] at h
    rw [setL, setL_get vs _ (o + 1) i (by simp; omega)]
    by_cases hi : i = o
    · subst hi
      rw [if_neg (by omega), if_pos (by simp), Nat.sub_self]
      simp only [List.getElem?_cons_zero]
      rw [List.getElem?_set_self (by omega)]
    · by_cases h2 : o + 1 ≤ i ∧ i < o + 1 + vs.length
      · rw [if_pos h2, if_pos (by simp; omega), show i - o = (i - (o + 1)) + 1 by omega, List.getElem?_cons_succ]
      · rw [if_neg h2, if_neg (by simp; omega), List.getElem?_set_ne (by omega)]

theorem Oks.setL {m : Mem} {xs : List AV} {us : List Value} (h : Oks m xs us) {ys : List AV} {vs : List Value} (h2 : Oks m ys vs) (o : Nat) (hl : o + ys.length ≤ xs.length) : Oks m (Go.Eng.setL xs o ys) (Go.Eng.setL us o vs) := by
  have e1 := h.length
  have e2 := h2.length
  refine Oks.of_get (by rw [setL_length, setL_length]; exact e1) fun i x u hx hu => ?_
  rw [setL_get _ _ _ _ hl] at hx
  rw [setL_get _ _ _ _ (by omega), e2] at hu
  split at hx
  · rename_i hi
    rw [if_pos hi] at hu
    obtain ⟨u', h3, h4⟩ := h2.get hx
    rw [h3] at hu; simp at hu; subst hu; exact h4
  · rename_i hi
    rw [if_neg hi] at hu
    obtain ⟨u', h3, h4⟩ := h.get hx
    rw [h3] at hu; simp at hu; subst hu; exact h4


/-! ### Struct literals -/
/-- Where the fields of a struct type lie, and how many cells they have. -/
def plF (P : Program) : List Field → Option (List (Nat × Nat))
  | [] => some []
  | f :: fs => match szT P f.type, plF P fs with
    | some n, some r => some ((f.offset, n) :: r)
    | _, _ => none
def plT (P : Program) (t : TypeId) : Option (List (Nat × Nat)) := match P.underlying t with | some (.struct fs) => plF P fs.toList | _ => none
def buildL (s : St) (pl : List (Nat × Nat)) (cells : List AV) : List (Nat × Operand) → List AV
  | [] => cells
  | (i, x) :: r => buildL s pl (setL cells ((pl.getD i (0, 0)).1) (boxCells (s.ev x).2)) r
def buildP (s : St) (pl : List (Nat × Nat)) (n : Nat) : List (Nat × Operand) → Prop
  | [] => True
  | (i, x) :: r => (s.ev x).1 = true ∧ cellsP (s.ev x).2 ∧ i < pl.length ∧ (boxCells (s.ev x).2).length = (pl.getD i (0, 0)).2 ∧ (pl.getD i (0, 0)).1 + (boxCells (s.ev x).2).length ≤ n ∧ buildP s pl n r

theorem foldl_setL (off : Nat) : ∀ (vs : List Value) (i : Nat) (cs : Array Value), ((vs.zipIdx i).foldl (fun cs (c, j) => cs.setIfInBounds (off + j) c) cs).toList = setL cs.toList (off + i) vs
  | [], i, cs => rfl
  | v :: vs, i, cs => by
    simp only [List.zipIdx_cons, List.foldl_cons, setL]
    rw [foldl_setL off vs (i + 1) (cs.setIfInBounds (off + i) v)]
    simp [Nat.add_assoc]

theorem build_fill {m : Mem} {s : St} {a : Act} (hok : ∀ y, (s.ev y).1 = true → Ok m (s.ev y).2 (a.eval y)) (pl : List (Nat × Nat)) : ∀ (ps : List (Nat × Operand)) (cells : List AV) (cs : Array Value), buildP s pl cells.length ps → Oks m cells cs.toList →
    ∃ cs', Instr.fill (fun i => pl[i]?) cs (ps.map fun p => (p.1, a.eval p.2)) = some cs' ∧ Oks m (buildL s pl cells ps) cs'.toList
  | [], cells, cs, _, h => ⟨cs, rfl, h⟩
  | (i, x) :: ps, cells, cs, hp, h => by
    simp only [buildP] at hp
    obtain ⟨h1, h2, h3, h4, h5, h6⟩ := hp
    have hx := hok x h1
    obtain ⟨c1, c2⟩ := cells_ok hx h2
    have hl : (a.eval x).cells.size = (boxCells (s.ev x).2).length := by rw [← c1.length]; simp
    have hcs : cs.size = cells.length := by have := h.length; simpa using this
    have hpl : pl[i]? = some (pl.getD i (0, 0)) := by simp [List.getD_eq_getElem?_getD, h3]
    have hfold : ((a.eval x).cells.zipIdx.foldl (fun cs (c, j) => cs.setIfInBounds ((pl.getD i (0, 0)).1 + j) c) cs).toList = setL cs.toList (pl.getD i (0, 0)).1 (a.eval x).cells.toList := by
      rw [← Array.foldl_toList]
      have := foldl_setL (pl.getD i (0, 0)).1 (a.eval x).cells.toList 0 cs
      simpa using this
    have hnext : Oks m (setL cells (pl.getD i (0, 0)).1 (boxCells (s.ev x).2)) ((a.eval x).cells.zipIdx.foldl (fun cs (c, j) => cs.setIfInBounds ((pl.getD i (0, 0)).1 + j) c) cs).toList := by
      rw [hfold]; exact Oks.setL h c1 _ h5
    obtain ⟨cs', g1, g2⟩ := build_fill hok pl ps _ _ (by rw [setL_length]; exact h6) hnext
    refine ⟨cs', ?_, g2⟩
    simp only [List.map_cons, Instr.fill, hpl]
    have e1 : (a.eval x).cells.size = (pl.getD i (0, 0)).2 := by rw [hl, h4]
    have e2 : ¬ (pl.getD i (0, 0)).1 + (a.eval x).cells.size > cs.size := by omega
    rw [if_neg (by simp only [e1, ne_eq, not_true_eq_false, decide_false, Bool.false_or, decide_eq_true_eq]; rw [← e1]; exact e2)]
    exact g1

theorem plF_run : ∀ (fs : List Field) (pl : List (Nat × Nat)), plF P fs = some pl → ∀ w, (fs.mapM fun f => do pure (f.offset, ← sizeOf f.type) : Sem (List (Nat × Nat))).run P w = .ok pl w
  | [], pl, h, w => by simp only [plF, Option.some.injEq] at h; subst h; simp
  | f :: fs, pl, h, w => by
    simp only [plF] at h
    split at h
    · rename_i n r hn hr
      simp only [Option.some.injEq] at h; subst h
      unfold szT at hn
      cases hi : P.info? f.type with
      | none => rw [hi] at hn; simp at hn
      | some i =>
        rw [hi] at hn
        simp only [Option.map_some, Option.some.injEq] at hn
        subst hn
        rw [List.mapM_cons]
        simp only [Sem.run_bind, run_sizeOf hi, Result.andThen_ok, Sem.run_pure, plF_run fs r hr w]
    · simp at h

theorem build_run {m : Mem} {s : St} {a : Act} (hok : ∀ y, (s.ev y).1 = true → Ok m (s.ev y).2 (a.eval y)) {t : TypeId} {ps : List (Nat × Operand)} (h1 : (plT P t).isSome = true) (h2 : (zeroT P t).isSome = true)
    (h3 : buildP s ((plT P t).getD []) (zcells P t).length ps) : ∃ u, Ok m (.agg (buildL s ((plT P t).getD []) ((zcells P t).map .v) ps)) u ∧ ∀ w, (Instr.build t ((ps.map fun p => (p.1, a.eval p.2)).toArray)).run P w = .ok u w := by
  cases hz : zeroT P t with
  | none => rw [hz] at h2; simp at h2
  | some z =>
    have hzc : zcells P t = z.cells.toList := by simp [zcells, hz]
    cases hpl : plT P t with
    | none => rw [hpl] at h1; simp at h1
    | some pl =>
      rw [hpl] at h3
      simp only [Option.getD_some] at h3 ⊢
      obtain ⟨cs', g1, g2⟩ := build_fill hok pl ps ((zcells P t).map .v) z.cells (by simpa using h3) (by rw [hzc]; exact Oks.vs _)
      refine ⟨.agg cs', by simp only [Ok]; exact ⟨cs'.toList, by simp, g2⟩, fun w => ?_⟩
      unfold plT at hpl
      split at hpl
      · rename_i fs hfs
        have hrun := plF_run (P := P) fs.toList pl hpl w
        have hm : (fs.mapM fun f => do pure (f.offset, ← sizeOf f.type) : Sem (Array (Nat × Nat))).run P w = .ok pl.toArray w := by
          rw [Array.mapM_eq_mapM_toList]
          simp only [map_eq_pure_bind, Sem.run_bind, hrun, Result.andThen_ok, Sem.run_pure]
        have hzv : (zeroValue t).run P w = .ok z w := by
          unfold zeroT at hz
          cases hi : P.info? t with
          | none => rw [hi] at hz; simp at hz
          | some i => rw [hi] at hz; simp only [Option.bind_some] at hz; simp [zeroValue, typeInfo, hi, hz]
        unfold Instr.build
        simp only [Sem.run_bind, hzv, Result.andThen_ok, run_underlying hfs, hm]
        have : (fun i : Nat => (pl.toArray)[i]?) = fun i : Nat => pl[i]? := by funext i; simp
        rw [this, g1]
        simp
      · simp at hpl

end Go.Eng

/- The engine, part F: the pure operations, all of them. -/
set_option linter.unusedVariables false
set_option linter.unusedSimpArgs false
namespace Go.Eng
open Go

variable {P : Program}

/-! ### pick, unary operations, conversions, min and max, parts -/
def pickAV (c x y : AV) : AV := .v (.bool (bif c.boolV then x.boolV else y.boolV))
def pickP (c a b : Bool × AV) : Prop := c.1 = true ∧ c.2.boolP ∧ (c.2.boolV = true → a.1 = true ∧ a.2.boolP) ∧ (c.2.boolV = false → b.1 = true ∧ b.2.boolP)

def unAV (op : UnOp) (x : AV) : AV :=
  match op with
  | .not => .v (.bool (!x.boolV))
  | .neg => .v (.int (intK x) ((intK x).wrap (0 - x.intV)))
  | _ => .bad
def unP (op : UnOp) (x : AV) : Prop :=
  match op with
  | .not => x.boolP
  | .neg => x.intP
  | _ => False

def rowByte : List Cell → UInt8
  | [.v (.int _ n)] => UInt8.ofNat n.toNat
  | _ => 0
def byteRow (b : UInt8) : List Cell := [.v (.int .u8 b.toNat)]
theorem rowByte_byteRow (b : UInt8) : rowByte (byteRow b) = b := by simp [rowByte, byteRow]
theorem rowBytes_map (l : List UInt8) : (l.map byteRow).map rowByte = l := by
  rw [List.map_map]
  conv => rhs; rw [← List.map_id l]
  exact List.map_congr_left fun b _ => rowByte_byteRow b
/-- The rows of a slice, as far as they are known. -/
def rowsAV (h : Heap) : AV → Option (List (List Cell))
  | .rd _ rows => some rows
  | .sl k E lo n => match look? h k with
    | some (.row _ E2 rows) => if E2 = E then some ((rows.drop lo).take n) else none
    | _ => none
  | .sub k i j E lo n => match look? h k with
    | some (.row _ _ rows) => if i < rows.length then (match (rows.getD i [])[j]? with
      | some (.s _ E2 rs) => if E2 = E then some (((rs.map (·.map .v)).drop lo).take n) else none
      | _ => none) else none
    | _ => none
  | .v (.slice none 0 0) => some []
  | _ => none
def isBytes (rows : List (List Cell)) : Prop := ∃ l : List UInt8, rows = l.map byteRow
theorem isBytes_map (l : List UInt8) : isBytes (l.map byteRow) = True := eq_true ⟨l, rfl⟩
def bytesT (P : Program) (t : TypeId) : Bool := match slT P t with | some (e, 1) => intT P e == some .u8 | _ => false

def convAV (P : Program) (h : Heap) (src dst : TypeId) (x : AV) : AV :=
  match intT P dst with
  | some k => .v (.int k (k.wrap x.intV))
  | none => if strT P dst = true then (if bytesT P src = true then .v (str (((rowsAV h x).getD []).map rowByte)) else x) else .bad
def convP (P : Program) (h : Heap) (src dst : TypeId) (x : AV) : Prop :=
  match intT P dst with
  | some k => x.intP ∧ (P.underlying src).isSome = true
  | none => strT P dst = true ∧ if bytesT P src = true then (eszAV 1 x ∧ isBytes ((rowsAV h x).getD [[]]) ∧ lenAV x = ((rowsAV h x).getD []).length) else (x.strP ∧ (P.underlying src).isSome = true)

def mmAV (mx : Bool) (x y : AV) : AV := .v (.int (intK x) (if mx then (if x.intV < y.intV then y.intV else x.intV) else (if y.intV < x.intV then y.intV else x.intV)))
def extAV (i : Nat) : AV → AV
  | .tup xs => xs.getD i .bad
  | _ => .bad
def extP (i : Nat) : AV → Prop
  | .tup xs => i < xs.length
  | _ => False
def fieldAV (P : Program) (t : TypeId) (f : Nat) : AV → AV
  | .agg xs => match fldV P t f with
    | some (o, agg, n) => pick1 agg n xs o
    | none => .bad
  | _ => .bad
def fieldP (P : Program) (t : TypeId) (f : Nat) : AV → Prop
  | .agg xs => match fldV P t f with
    | some (o, agg, n) => szOk agg n xs.length o
    | none => False
  | _ => False

def evs (s : St) (xs : List Operand) : List AV := xs.map fun x => (s.ev x).2
def evsP (s : St) (xs : List Operand) : Prop := ∀ x ∈ xs, (s.ev x).1 = true

def pureOp (P : Program) (s : St) : Op → Option (Prop × AV)
  | .move x => some ((s.ev x).1 = true, (s.ev x).2)
  | .assign x => some ((s.ev x).1 = true, (s.ev x).2)
  | .pick c a b => some (pickP (s.ev c) (s.ev a) (s.ev b), pickAV (s.ev c).2 (s.ev a).2 (s.ev b).2)
  | .binOp op t x y _ => some (((s.ev x).1 = true ∧ (s.ev y).1 = true) ∧ binP P t op (s.ev x).2 (s.ev y).2, binAV op (s.ev x).2 (s.ev y).2)
  | .unOp op _ x => some ((s.ev x).1 = true ∧ unP op (s.ev x).2, unAV op (s.ev x).2)
  | .convert src dst x => if strT P src = true ∧ bytesT P dst = true then none else some ((s.ev x).1 = true ∧ convP P s.h src dst (s.ev x).2, convAV P s.h src dst (s.ev x).2)
  | .fieldAddr t x f => some ((s.ev x).1 = true ∧ (fldT P t f).isSome = true ∧ isPtrAV (s.ev x).2, fldAV ((fldT P t f).getD 0) (s.ev x).2)
  | .indexAddr t x i => some (((s.ev x).1 = true ∧ (s.ev i).1 = true) ∧ ixaP P t (s.ev x).2 (s.ev i).2, ixaAV (s.ev x).2 (s.ev i).2.intV.toNat)
  | .index t x i => some (((s.ev x).1 = true ∧ (s.ev i).1 = true) ∧ idxP P t (s.ev x).2 (s.ev i).2, idxAV (s.ev x).2 (s.ev i).2)
  | .load t x => some ((s.ev x).1 = true ∧ ((szT P t).isSome = true ∧ (P.underlying t).isSome = true) ∧ loadP P s.h t (s.ev x).2, loadAV P s.h t (s.ev x).2)
  | .slice t x lo hi none => some ((s.ev x).1 = true ∧ optP s lo ∧ optP s hi ∧ cutP P t (s.ev x).2 (optV s 0 lo) (optV s (lenAV (s.ev x).2) hi), cutAV (s.ev x).2 (optV s 0 lo).toNat (optV s (lenAV (s.ev x).2) hi).toNat)
  | .extract x i => some ((s.ev x).1 = true ∧ extP i (s.ev x).2, extAV i (s.ev x).2)
  | .field t x f => some ((s.ev x).1 = true ∧ fieldP P t f (s.ev x).2, fieldAV P t f (s.ev x).2)
  | .nilCheck x => some ((s.ev x).1 = true ∧ isPtrAV (s.ev x).2, (s.ev x).2)
  | .call ⟨.builtin .len, ⟨[x]⟩, ⟨[t]⟩⟩ => some ((s.ev x).1 = true ∧ lenP P t (s.ev x).2, .v (.int .i64 (lenAV (s.ev x).2)))
  | .call ⟨.builtin .min, ⟨[x, y]⟩, _⟩ => some (((s.ev x).1 = true ∧ (s.ev y).1 = true) ∧ int2P (s.ev x).2 (s.ev y).2, mmAV false (s.ev x).2 (s.ev y).2)
  | .call ⟨.builtin .max, ⟨[x, y]⟩, _⟩ => some (((s.ev x).1 = true ∧ (s.ev y).1 = true) ∧ int2P (s.ev x).2 (s.ev y).2, mmAV true (s.ev x).2 (s.ev y).2)
  | .makeFunc (.func f) ⟨[]⟩ ⟨cs⟩ => some (evsP s cs, .fn f (evs s cs))
  | .build t ⟨ps⟩ => some (((plT P t).isSome = true ∧ (zeroT P t).isSome = true) ∧ buildP s ((plT P t).getD []) (zcells P t).length ps, .agg (buildL s ((plT P t).getD []) ((zcells P t).map .v) ps))
  | _ => none

theorem run_v {s : Sem Value} {u : Value} {w w' : World} (h : s.run P w = .ok u w') : (do pure (.value (← s)) : Sem Next).run P w = .ok (.value u) w' := by
  simp [h]

theorem Oks.evs {m : Mem} {s : St} {a : Act} (hok : ∀ y, (s.ev y).1 = true → Ok m (s.ev y).2 (a.eval y)) : ∀ (xs : List Operand), evsP s xs → Oks m (evs s xs) (xs.map a.eval)
  | [], _ => by simp only [Go.Eng.evs, List.map_nil, Oks]
  | x :: xs, h => by
    simp only [Go.Eng.evs, List.map_cons, Oks]
    exact ⟨_, _, rfl, hok x (h x (by simp)), Oks.evs hok xs fun y hy => h y (by simp [hy])⟩

theorem win_get {α : Type} {rows : List α} {lo n i : Nat} {x : α} (h : ((rows.drop lo).take n)[i]? = some x) : i < n ∧ rows[lo + i]? = some x := by
  have hl := (List.getElem?_eq_some_iff.1 h).1
  simp only [List.length_take, List.length_drop] at hl
  have hi : i < n := by omega
  rw [List.getElem?_take_of_lt hi, List.getElem?_drop] at h
  exact ⟨hi, h⟩
/-- The rows that a slice shows: what is read at its cells. -/
theorem rows_read {m : Mem} {w : World} {h : Heap} {nk : Nat} (hc : Core m w h nk) {x : AV} {u : Value} {E : Nat} {rows : List (List Cell)} (hx : Ok m x u) (hr : rowsAV h x = some rows) (hE : eszAV E x) (hl : lenAV x = rows.length) :
    ∃ A c, u = .slice A rows.length c ∧ ∀ w', RowKit.Below w.heap.size w w' → ∀ (i : Nat) row, rows[i]? = some row → ∃ b o, A = some ⟨b, o, none⟩ ∧ row.length = E ∧
      ∀ (j : Nat) c, row[j]? = some c → ∃ y, w'.cell? ⟨b, o + i * E + j, none⟩ = some y ∧ (∀ z, c = .v z → y = z) := by
  cases x <;> simp only [rowsAV] at hr <;> try (simp at hr; done)
  case v x =>
    split at hr <;> try (simp at hr; done)
    all_goals (rename_i he; try (cases he; done))
    simp only [AV.v.injEq] at he
    subst he
    simp at hr; subst hr
    rw [ok_v] at hx; subst hx
    exact ⟨none, 0, rfl, fun w' _ i row hi => by simp at hi⟩
  case rd E' rows' =>
    simp at hr; subst hr
    simp only [eszAV] at hE; subst hE
    simp only [Ok] at hx
    obtain ⟨A, c, rfl, _, hh⟩ := hx
    refine ⟨A, c, rfl, fun w' hb i row hi => ?_⟩
    obtain ⟨b, o, h1, h2, h3⟩ := hh i row hi
    refine ⟨b, o, h1, h2, fun j c hj => ?_⟩
    obtain ⟨y, hy, hrc⟩ := h3 j c hj
    exact ⟨y, ro_cell hc hb hy, fun z hz => by subst hz; exact hrc⟩
  case sl k E' lo n =>
    simp only [eszAV] at hE; subst hE
    cases hk : look? h k with
    | none => rw [hk] at hr; simp at hr
    | some ch =>
      rw [hk] at hr
      cases ch with
      | box e cells => simp at hr
      | pin _ _ _ => simp at hr
      | fact _ _ => simp at hr
      | row e E2 rws =>
        simp only at hr
        split at hr
        · rename_i he; subst he
          simp only [Option.some.injEq] at hr
          simp only [lenAV] at hl
          simp only [Ok] at hx
          obtain ⟨A, c, rfl, hc0, hx⟩ := hx
          refine ⟨A, c, by rw [hl], fun w' hb i row hi => ?_⟩
          subst hr
          obtain ⟨hin, hi'⟩ := win_get hi
          rcases hx with ⟨b, h1, h2, h3⟩ | ⟨h1, _⟩
          · rcases hc.chunk k _ hk with ⟨g1, _⟩ | ⟨b', vs, fr, g1, g2, g3, g4, g5⟩
            · rw [h1] at g1; simp at g1
            · rw [h1] at g1; simp at g1; subst g1
              obtain ⟨q1, q2⟩ := g5 _ _ hi'
              refine ⟨b, lo * E2, h2, q1, fun j c hj => ?_⟩
              obtain ⟨y, hy, hco⟩ := q2 j c hj
              refine ⟨y, ?_, fun z hz => by subst hz; exact hco⟩
              have : lo * E2 + i * E2 + j = (lo + i) * E2 + j := by rw [Nat.add_mul]
              rw [this]
              exact own_cell hb g2 hy
          · omega
        · simp at hr
  case sub k i0 j0 E' lo n =>
    simp only [eszAV] at hE; subst hE
    cases hk : look? h k with
    | none => rw [hk] at hr; simp at hr
    | some ch =>
      rw [hk] at hr
      cases ch with
      | box e cells => simp at hr
      | pin _ _ _ => simp at hr
      | fact _ _ => simp at hr
      | row e E2 rws =>
        simp only at hr
        split at hr
        · rename_i hi0
          split at hr
          · rename_i e3 E3 rs hcj
            split at hr
            · rename_i he; subst he
              simp only [Option.some.injEq] at hr
              simp only [lenAV] at hl
              simp only [Ok] at hx
              obtain ⟨A, c, rfl, hc0, hx⟩ := hx
              refine ⟨A, c, by rw [hl], fun w' hb i row hi => ?_⟩
              subst hr
              obtain ⟨hin, hi'⟩ := win_get hi
              simp only [List.getElem?_map, Option.map_eq_some_iff] at hi'
              obtain ⟨row', hi', rfl⟩ := hi'
              rcases hx with ⟨b, h1, h2, h3⟩ | ⟨h1, _⟩
              · rcases hc.chunk k _ hk with ⟨_, g1⟩ | ⟨b', vs, fr, g1, g2, g3, g4, g5⟩
                · subst g1; simp at hi0
                · have hrow : rws[i0]? = some (rws.getD i0 []) := by simp [List.getD_eq_getElem?_getD, hi0]
                  obtain ⟨q1, q2⟩ := g5 _ _ hrow
                  obtain ⟨y0, hy0, hs0, hn0⟩ := q2 _ _ hcj
                  rcases hn0 with ⟨n1, _⟩ | ⟨b2, vs2, fr2, n1, n2, n3, n4, n5⟩
                  · rw [h1] at n1; simp at n1
                  · rw [h1] at n1; simp at n1; subst n1
                    obtain ⟨r1, r2⟩ := n5 _ _ hi'
                    refine ⟨b, lo * E3, h2, by simpa using r1, fun j c hj => ?_⟩
                    simp only [List.getElem?_map, Option.map_eq_some_iff] at hj
                    obtain ⟨x, hj, rfl⟩ := hj
                    refine ⟨x, ?_, fun z hz => by cases hz; rfl⟩
                    have : lo * E3 + i * E3 + j = (lo + i) * E3 + j := by rw [Nat.add_mul]
                    rw [this]
                    exact own_cell hb n2 (r2 j x hj)
              · omega
            · simp at hr
          · simp at hr
        · simp at hr


theorem bytesT_spec {t : TypeId} (h : bytesT P t = true) : ∃ e, P.underlying t = some (.slice e) ∧ P.underlying e = some (.int .u8) ∧ slT P t = some (e, 1) := by
  unfold bytesT at h
  split at h
  · rename_i e he
    have h' : intT P e = some .u8 := by simpa using h
    exact ⟨e, (slT_spec he).1, intT_spec h', he⟩
  · simp at h

theorem conv_run {m : Mem} {w : World} {h : Heap} {nk : Nat} (hc : Core m w h nk) {src dst : TypeId} {x : AV} {u : Value} (hx : Ok m x u) (hp : convP P h src dst x) :
    ∃ z, Ok m (convAV P h src dst x) z ∧ ∀ w', RowKit.Below w.heap.size w w' → (convert src dst u).run P w' = .ok z w' := by
  unfold convP at hp
  unfold convAV
  cases hk : intT P dst with
  | some k =>
    rw [hk] at hp
    obtain ⟨h1, h2⟩ := hp
    obtain ⟨k', n, rfl⟩ := intP_inv h1
    rw [ok_v] at hx; subst hx
    refine ⟨_, ok_v.2 rfl, fun w' _ => ?_⟩
    cases hs : P.underlying src with
    | none => rw [hs] at h2; simp at h2
    | some d =>
      simp [convert, run_underlying hs, run_underlying (intT_spec hk), Conv.intToInt, AV.intV]
  | none =>
    rw [hk] at hp
    obtain ⟨h1, h2⟩ := hp
    simp only [h1, if_true]
    split at h2
    · rename_i hb
      rw [if_pos hb]
      obtain ⟨e, hs, he, hT⟩ := bytesT_spec hb
      obtain ⟨hE, ⟨l, hl⟩, hlen⟩ := h2
      cases hr : rowsAV h x with
      | none =>
        rw [hr] at hl
        simp only [Option.getD_none] at hl
        cases l with
        | nil => simp at hl
        | cons b l => simp [byteRow] at hl
      | some rows =>
        rw [hr] at hl
        rw [hr] at hlen
        simp only [Option.getD_some] at hl hlen ⊢
        subst hl
        rw [rowBytes_map]
        refine ⟨_, ok_v.2 rfl, fun w' hb' => ?_⟩
        obtain ⟨A, c, rfl, hread⟩ := rows_read hc hx hr hE hlen
        cases A with
        | none =>
          cases l with
          | nil => simp [convert, run_underlying hs, run_underlying (strT_spec h1), run_underlying he, Conv.bytesToString, str]; rfl
          | cons b l =>
            obtain ⟨b', o, h0, _⟩ := hread w' hb' 0 (byteRow b) (by simp)
            simp at h0
        | some a =>
          have := run_convert_bytes_back (P := P) w' src dst e a c l hs he (strT_spec h1) (fun j hj => by
            obtain ⟨b', o, h0, _, hcell⟩ := hread w' hb' j (byteRow l[j]) (by simp [hj])
            obtain ⟨y, hy, hz⟩ := hcell 0 (.v (.int .u8 l[j].toNat)) rfl
            simp only [Option.some.injEq] at h0
            subst h0
            rw [add_none, ← hz _ rfl, ← hy]; congr 2; omega)
          simp only [List.length_map]
          exact this
    · rename_i hb
      rw [if_neg hb]
      obtain ⟨h2, h3⟩ := h2
      obtain ⟨str0, rfl⟩ := strP_inv h2
      rw [ok_v] at hx; subst hx
      refine ⟨_, ok_v.2 rfl, fun w' _ => ?_⟩
      cases hs : P.underlying src with
      | none => rw [hs] at h3; simp at h3
      | some d => 
        simp [convert, run_underlying hs, run_underlying (strT_spec h1)]

end Go.Eng

/- The engine, part G: the machine does the pure operations. -/
set_option linter.unusedVariables false
set_option linter.unusedSimpArgs false
namespace Go.Eng
open Go

variable {P : Program}

theorem run_builtin {a : Act} {b : Builtin} {xs : List Operand} {ts : Array TypeId} {u : Value} {w w' : World} {o : Oper} (ho : o.op = .call ⟨.builtin b, ⟨xs⟩, ts⟩)
    (h : ∀ cs, (builtin b ts o.type cs (xs.map a.eval).toArray).run P w = .ok (.value u) w') :
    (execOp a.eval o).run P w = .ok (.value u) w' := by
  simp only [execOp, ho, resolve, Sem.run_bind, Sem.run_pure, Result.andThen_ok, invoke]
  simpa using h _

theorem pure_sound {B : Base} {m : Mem} {s : St} {a : Act} {w : World} {o : Oper} {safe : Prop} {av : AV} (hp : pureOp P s o.op = some (safe, av)) (hs : safe) (h : Sat B m s a w) :
    ∃ u, Ok m av u ∧ ∀ w', RowKit.Below w.heap.size w w' → (execOp a.eval o).run P w' = .ok (.value u) w' := by
  have hok := fun y hy => ev_ok h y hy
  have hc := h.core
  unfold pureOp at hp
  split at hp
  case h_1 x ho =>
    simp only [Option.some.injEq, Prod.mk.injEq] at hp; obtain ⟨rfl, rfl⟩ := hp
    exact ⟨_, hok x hs, fun w' _ => by simp [execOp, ho]⟩
  case h_2 x ho =>
    simp only [Option.some.injEq, Prod.mk.injEq] at hp; obtain ⟨rfl, rfl⟩ := hp
    exact ⟨_, hok x hs, fun w' _ => by simp [execOp, ho]⟩
  case h_3 c x y ho =>
    simp only [Option.some.injEq, Prod.mk.injEq] at hp; obtain ⟨rfl, rfl⟩ := hp
    obtain ⟨p1, p2, p5, p6⟩ := hs
    obtain ⟨cb, hcb⟩ := boolP_inv p2
    have hce := hok c p1
    rw [hcb, ok_v] at hce
    refine ⟨.bool (bif cb then (s.ev x).2.boolV else (s.ev y).2.boolV), by unfold pickAV; rw [hcb]; exact ok_v.2 rfl, fun w' _ => ?_⟩
    rw [hcb] at p5 p6
    simp only [AV.boolV] at p5 p6
    cases cb with
    | true =>
      obtain ⟨q1, q2⟩ := p5 rfl
      obtain ⟨xb, hxb⟩ := boolP_inv q2
      have := hok x q1
      rw [hxb, ok_v] at this
      simp [execOp, ho, hce, asBool, this, hxb, AV.boolV]
    | false =>
      obtain ⟨q1, q2⟩ := p6 rfl
      obtain ⟨yb, hyb⟩ := boolP_inv q2
      have := hok y q1
      rw [hyb, ok_v] at this
      simp [execOp, ho, hce, asBool, this, hyb, AV.boolV]
  case h_4 op t x y t' ho =>
    simp only [Option.some.injEq, Prod.mk.injEq] at hp; obtain ⟨rfl, rfl⟩ := hp
    obtain ⟨⟨p1, p2⟩, p3⟩ := hs
    obtain ⟨z, h1, h2⟩ := bin_run (hok x p1) (hok y p2) p3 x y
    refine ⟨z, h1, fun w' _ => ?_⟩
    have := run_v (h2 w')
    simp only [execOp, ho]
    exact this
  case h_5 op t x ho =>
    simp only [Option.some.injEq, Prod.mk.injEq] at hp; obtain ⟨rfl, rfl⟩ := hp
    obtain ⟨p1, p2⟩ := hs
    cases op <;> simp only [unP] at p2
    · obtain ⟨k, n, hx⟩ := intP_inv p2
      have := hok x p1
      rw [hx, ok_v] at this
      rw [hx]
      exact ⟨_, ok_v.2 rfl, fun w' _ => by simp [execOp, ho, this, Op.unary, Op.intArith, intK, AV.intV]⟩
    · obtain ⟨b, hx⟩ := boolP_inv p2
      have := hok x p1
      rw [hx, ok_v] at this
      rw [hx]
      exact ⟨_, ok_v.2 rfl, fun w' _ => by simp [execOp, ho, this, Op.unary, AV.boolV]⟩
  case h_6 src dst x ho =>
    split at hp
    · simp at hp
    simp only [Option.some.injEq, Prod.mk.injEq] at hp; obtain ⟨rfl, rfl⟩ := hp
    obtain ⟨z, h1, h2⟩ := conv_run hc (hok x hs.1) hs.2
    exact ⟨z, h1, fun w' hb => by have := run_v (h2 w' hb); simp only [execOp, ho]; exact this⟩
  case h_7 t x f ho =>
    simp only [Option.some.injEq, Prod.mk.injEq] at hp; obtain ⟨rfl, rfl⟩ := hp
    obtain ⟨z, h1, h2⟩ := fld_run (hok x hs.1) hs.2.1 hs.2.2
    exact ⟨z, h1, fun w' _ => by have := run_v (h2 w'); simp only [execOp, ho]; exact this⟩
  case h_8 t x i ho =>
    simp only [Option.some.injEq, Prod.mk.injEq] at hp; obtain ⟨rfl, rfl⟩ := hp
    obtain ⟨z, h1, h2⟩ := ixa_run (hok x hs.1.1) (hok i hs.1.2) hs.2
    exact ⟨z, h1, fun w' _ => by have := run_v (h2 w'); simp only [execOp, ho]; exact this⟩
  case h_9 t x i ho =>
    simp only [Option.some.injEq, Prod.mk.injEq] at hp; obtain ⟨rfl, rfl⟩ := hp
    obtain ⟨z, h1, h2⟩ := idx_run (hok x hs.1.1) (hok i hs.1.2) hs.2
    exact ⟨z, h1, fun w' _ => by have := run_v (h2 w'); simp only [execOp, ho]; exact this⟩
  case h_10 t x ho =>
    simp only [Option.some.injEq, Prod.mk.injEq] at hp; obtain ⟨rfl, rfl⟩ := hp
    obtain ⟨z, h1, h2⟩ := load_run hc (hok x hs.1) hs.2.2 hs.2.1
    exact ⟨z, h1, fun w' hb => by have := run_v (h2 w' hb); simp only [execOp, ho]; exact this⟩
  case h_11 t x lo hi ho =>
    simp only [Option.some.injEq, Prod.mk.injEq] at hp; obtain ⟨rfl, rfl⟩ := hp
    obtain ⟨z, h1, h2⟩ := cut_run (a := a) (hok x hs.1) hok hs.2.1 hs.2.2.1 hs.2.2.2
    exact ⟨z, h1, fun w' _ => by have := run_v (h2 w'); simp only [execOp, ho]; exact this⟩
  case h_12 x i ho =>
    simp only [Option.some.injEq, Prod.mk.injEq] at hp; obtain ⟨rfl, rfl⟩ := hp
    obtain ⟨p1, p2⟩ := hs
    have hx := hok x p1
    generalize (s.ev x).2 = av at *
    cases av <;> simp only [extP] at p2
    rename_i xs
    simp only [Ok] at hx
    obtain ⟨us, hu, hus⟩ := hx
    obtain ⟨u, hu', hok'⟩ := hus.get (show xs[i]? = some (xs.getD i .bad) by simp [List.getD_eq_getElem?_getD, p2])
    refine ⟨u, hok', fun w' _ => ?_⟩
    simp [execOp, ho, hu, Instr.extract, hu']
  case h_13 t x f ho =>
    simp only [Option.some.injEq, Prod.mk.injEq] at hp; obtain ⟨rfl, rfl⟩ := hp
    obtain ⟨p1, p2⟩ := hs
    have hx := hok x p1
    generalize (s.ev x).2 = av at *
    cases av <;> simp only [fieldP] at p2
    rename_i xs
    simp only [Ok] at hx
    obtain ⟨us, hu, hus⟩ := hx
    cases hf : fldV P t f with
    | none => rw [hf] at p2; exact p2.elim
    | some q =>
      obtain ⟨o', ag, n⟩ := q
      rw [hf] at p2
      simp only at p2
      simp only [fieldAV, hf]
      refine ⟨_, pick1_ok hus p2, fun w' _ => ?_⟩
      unfold fldV at hf
      split at hf
      · rename_i fs hfs
        split at hf
        · rename_i fd hfd
          split at hf
          · rename_i n' d hn hd
            simp only [Option.some.injEq, Prod.mk.injEq] at hf
            obtain ⟨rfl, rfl, rfl⟩ := hf
            unfold szT at hn
            cases hi : P.info? fd.type with
            | none => rw [hi] at hn; simp at hn
            | some i =>
              rw [hi] at hn
              simp only [Option.map_some, Option.some.injEq] at hn
              subst hn
              have hag : (isAgg fd.type).run P w' = .ok (isAggT P fd.type) w' := by
                unfold isAgg
                simp only [Sem.run_bind, run_underlying hd, Result.andThen_ok]
                unfold isAggT
                rw [hd]
                cases d <;> simp_all
              have hpart : (part fd.type us.toArray fd.offset).run P w' = .ok (if isAggT P fd.type = true then .agg ((us.drop fd.offset).take i.size).toArray else (us.drop fd.offset).getD 0 undef) w' := by
                unfold part
                simp only [Sem.run_bind, hag, Result.andThen_ok]
                cases hb : isAggT P fd.type with
                | true => simp [run_sizeOf hi, List.extract_eq_take_drop]
                | false =>
                  rw [hb] at p2
                  simp only [szOk, Bool.false_eq_true, if_false] at p2
                  rw [← hus.length] at p2
                  simp [List.getD_eq_getElem?_getD, p2]
              simp [execOp, ho, hu, Instr.field, run_underlying hfs, hfd, asAgg, hpart]
          · simp at hf
        · simp at hf
      · simp at hf
  case h_14 x ho =>
    simp only [Option.some.injEq, Prod.mk.injEq] at hp; obtain ⟨rfl, rfl⟩ := hp
    obtain ⟨p1, p2⟩ := hs
    obtain ⟨b, o', hu, _⟩ := isPtr_ok (hok x p1) p2
    exact ⟨_, hok x p1, fun w' _ => by simp [execOp, ho, hu]⟩
  case h_15 x t ho =>
    simp only [Option.some.injEq, Prod.mk.injEq] at hp; obtain ⟨rfl, rfl⟩ := hp
    refine ⟨_, ok_v.2 rfl, fun w' _ => run_builtin ho ?_⟩
    exact fun _ => run_v (len_run (hok x hs.1) hs.2 _ _ rfl w')
  case h_16 x y ts ho =>
    simp only [Option.some.injEq, Prod.mk.injEq] at hp; obtain ⟨rfl, rfl⟩ := hp
    obtain ⟨⟨p1, p2⟩, p3⟩ := hs
    obtain ⟨k, p, q, hx, hy⟩ := int2P_inv p3
    have ex := hok x p1; have ey := hok y p2
    rw [hx, ok_v] at ex; rw [hy, ok_v] at ey
    rw [hx, hy]
    refine ⟨_, ok_v.2 rfl, fun w' _ => run_builtin ho ?_⟩
    intro cs
    simp [builtin, ex, ey, Builtin.min_, Builtin.min2, intK, AV.intV]
    rfl
  case h_17 x y ts ho =>
    simp only [Option.some.injEq, Prod.mk.injEq] at hp; obtain ⟨rfl, rfl⟩ := hp
    obtain ⟨⟨p1, p2⟩, p3⟩ := hs
    obtain ⟨k, p, q, hx, hy⟩ := int2P_inv p3
    have ex := hok x p1; have ey := hok y p2
    rw [hx, ok_v] at ex; rw [hy, ok_v] at ey
    rw [hx, hy]
    refine ⟨_, ok_v.2 rfl, fun w' _ => run_builtin ho ?_⟩
    intro cs
    simp [builtin, ex, ey, Builtin.max_, Builtin.max2, intK, AV.intV]
    rfl
  case h_18 f cs ho =>
    simp only [Option.some.injEq, Prod.mk.injEq] at hp; obtain ⟨rfl, rfl⟩ := hp
    refine ⟨.func (.func f) #[] (cs.map a.eval).toArray, ?_, fun w' _ => ?_⟩
    · simp only [Ok]; exact ⟨_, rfl, Oks.evs hok cs hs⟩
    · simp [execOp, ho, Instr.makeFunc]
  case h_19 t ps ho =>
    simp only [Option.some.injEq, Prod.mk.injEq] at hp; obtain ⟨rfl, rfl⟩ := hp
    obtain ⟨u, k1, k2⟩ := build_run (P := P) hok hs.1.1 hs.1.2 hs.2
    refine ⟨u, k1, fun w' _ => ?_⟩
    have := run_v (k2 w')
    simp only [execOp, ho]
    simpa using this
  case h_20 => simp at hp

end Go.Eng

/- The engine, part H: operations that make a new block. -/
set_option linter.unusedVariables false
set_option linter.unusedSimpArgs false
namespace Go.Eng
open Go

variable {P : Program}

def Mem.put (m : Mem) (k b : Nat) (w : World) : Mem := { m with b := fun l => if l = .root k then some b else m.b l, z := bsz w }
theorem Mem.put_root (m : Mem) (k b : Nat) (w : World) : (m.put k b w).b (.root k) = some b := by simp [Mem.put]

/-- A world with one new block. -/
structure NewB (w w1 : World) (vs : Array Value) (e : TypeId) (fr : Nat × Nat) : Prop where
  below : RowKit.Below w.heap.size w w1
  size : w1.heap.size = w.heap.size + 1
  at_ : w1.heap[w.heap.size]? = some (.cells vs e fr)
theorem NewB.alloc (w : World) (vs : Array Value) (e : TypeId) (fr : Nat × Nat) : NewB w (w.alloc (.cells vs e fr)) vs e fr :=
  ⟨(RowKit.Below.refl _ _).alloc (Nat.le_refl _) _, by simp, heap_alloc_new w _⟩
theorem NewB.alloc_drew (w : World) (vs : Array Value) (e : TypeId) (fr : Nat × Nat) : NewB w (w.drew.alloc (.cells vs e fr)) vs e fr :=
  ⟨((RowKit.Below.refl _ _).drew).alloc (Nat.le_refl _) _, by simp, heap_alloc_new w.drew _⟩

def St.newk (s : St) (ch : Chunk) : St := ⟨s.t, (s.nk, ch) :: s.h, s.nk + 1, s.N⟩

theorem Sat.new {B : Base} {m : Mem} {s : St} {a : Act} {w w1 : World} (h : Sat B m s a w) {vs : Array Value} {e : TypeId} {fr : Nat × Nat} (hn : NewB w w1 vs e fr) {ch : Chunk}
    (hch : ∀ m' : Mem, m.le m' → m'.b (.root s.nk) = some w.heap.size → m'.z w.heap.size = vs.size → ChunkOk m' w1 s.nk ch) :
    ∃ m', m.le m' ∧ m'.b (.root s.nk) = some w.heap.size ∧ m'.z w.heap.size = vs.size ∧ Sat B m' (s.newk ch) a w1 := by
  have hnone := (h.core.new s.nk (Nat.le_refl _)).1
  have hle : m.le (m.put s.nk w.heap.size w1) := by
    refine ⟨rfl, fun l b hl => ?_, fun l b hl => ?_⟩
    · simp only [Mem.put]
      rw [if_neg (by intro he; rw [he, hnone] at hl; simp at hl)]
      exact hl
    · show m.z b ≤ bsz w1 b
      rw [h.core.z, bsz_below hn.below (h.core.lt l b hl)]; exact Nat.le_refl _
  have hz : (m.put s.nk w.heap.size w1).z w.heap.size = vs.size := by
    show bsz w1 w.heap.size = _
    unfold bsz; rw [hn.at_]
  refine ⟨_, hle, Mem.put_root _ _ _ _, hz, h.defers, h.size, h.r, ⟨?_, ?_, ?_, ?_, ?_, ?_⟩, ?_, h.frm.below hn.below, h.tmps.mono hle⟩
  · intro l l' b hl hl'
    simp only [Mem.put] at hl hl'
    split at hl <;> split at hl'
    · rename_i e1 e2; rw [e1, e2]
    · simp only [Option.some.injEq] at hl; subst hl
      have := h.core.lt _ _ hl'; omega
    · simp only [Option.some.injEq] at hl'; subst hl'
      have := h.core.lt _ _ hl; omega
    · exact h.core.inj l l' b hl hl'
  · intro l b hl
    simp only [Mem.put] at hl
    rw [hn.size]
    split at hl
    · simp only [Option.some.injEq] at hl; omega
    · have := h.core.lt _ _ hl; omega
  · exact fun _ => rfl
  · intro b o hr
    obtain ⟨h1, h2⟩ := h.core.ro b o hr
    have hb := (Array.getElem?_eq_some_iff.1 h1).1
    refine ⟨by rw [hn.below.block b hb]; exact h1, fun l => ?_⟩
    simp only [Mem.put]
    split
    · intro he; simp only [Option.some.injEq] at he; omega
    · exact h2 l
  · intro k hk
    simp only [St.newk] at hk
    obtain ⟨h1, h2⟩ := h.core.new k (by omega)
    refine ⟨?_, fun i j => ?_⟩
    · simp only [Mem.put]; rw [if_neg (by intro he; cases he; omega)]; exact h1
    · simp only [Mem.put]; rw [if_neg (by intro he; cases he)]; exact h2 i j
  · intro k c hk
    simp only [St.newk, look?] at hk
    split at hk
    · rename_i he; subst he
      simp only [Option.some.injEq] at hk; subst hk
      exact hch _ hle (Mem.put_root _ _ _ _) hz
    · rename_i he
      have hck := h.core.chunk k c hk
      refine hck.keep hle (fun i j => ?_) ?_ (fun l b hl _ => hn.below.block b (h.core.lt l b hl))
      · simp only [Mem.put]; rw [if_neg (by intro he; cases he)]
      · simp only [Mem.put]; rw [if_neg (by intro he'; cases he'; exact he rfl)]
  · intro l b hl
    simp only [Mem.put] at hl
    split at hl
    · simp only [Option.some.injEq] at hl; subst hl; exact .inr h.frm.size
    · exact h.own l b hl

/-! ### box, alloc -/
def isV : AV → Bool
  | .v _ => true
  | _ => false
def toCell : AV → Cell
  | .v x => .v x
  | _ => .v undef
theorem toCell_v (x : Value) : toCell (.v x) = .v x := rfl
theorem isV_v (x : Value) : isV (.v x) = true := rfl

/-- The parts of a slice literal, in order, one for each element. -/
def partsOk (s : St) (E : Nat) : Nat → List (Nat × Operand) → Prop
  | _, [] => True
  | i, (j, x) :: r => j = i ∧ (s.ev x).1 = true ∧ cellsP (s.ev x).2 ∧ (boxCells (s.ev x).2).length = E ∧ partsOk s E (i + 1) r
def partCells (s : St) (parts : List (Nat × Operand)) : List (List AV) := parts.map fun p => boxCells (s.ev p.2).2
def litChunk (e E : Nat) (rows : List (List AV)) : Chunk := if rows.all (·.all isV) then .row e E (rows.map (·.map toCell)) else .box e rows.flatten

/-- Operations that make a block: what they need, the new chunk, the value. -/
def newOp (P : Program) (s : St) : Op → Option (Prop × Chunk × AV)
  | .box e x => some ((s.ev x).1 = true ∧ cellsP (s.ev x).2, .box e (boxCells (s.ev x).2), .ptr s.nk 0 0 0)
  | .alloc e => some ((zeroT P e).isSome = true, .box e ((zcells P e).map .v), .ptr s.nk 0 0 0)
  | .makeSlice t l c => some (((s.ev l).1 = true ∧ (s.ev l).2.intP ∧ (s.ev c).1 = true ∧ (s.ev c).2.intP) ∧ ((slT P t).isSome = true ∧ (((slT P t).bind fun p => zeroT P p.1).isSome = true) ∧ (zcells P (((slT P t).getD (0, 0)).1)).length = ((slT P t).getD (0, 0)).2 ∧ 0 < ((slT P t).getD (0, 0)).2) ∧
      0 ≤ (s.ev l).2.intV ∧ (s.ev l).2.intV ≤ (s.ev c).2.intV ∧ (s.ev c).2.intV ≤ 1099511627776 ∧ ((P.info? (((slT P t).getD (0, 0)).1)).map (·.bytes)).getD 1000 ≤ 256,
      .row ((slT P t).getD (0, 0)).1 ((slT P t).getD (0, 0)).2 (List.replicate (s.ev l).2.intV.toNat ((zcells P (((slT P t).getD (0, 0)).1)).map .v)), .sl s.nk ((slT P t).getD (0, 0)).2 0 (s.ev l).2.intV.toNat)
  | .buildSlice t n ⟨ps⟩ => some ((slT P t).isSome = true ∧ 0 < ((slT P t).getD (0, 0)).2 ∧ ((slT P t).bind fun p => zeroT P p.1).isSome = true ∧ (zcells P (((slT P t).getD (0, 0)).1)).length = ((slT P t).getD (0, 0)).2 ∧ ps.length = n ∧ n * ((slT P t).getD (0, 0)).2 ≤ 16777216 ∧ partsOk s ((slT P t).getD (0, 0)).2 0 ps,
      litChunk ((slT P t).getD (0, 0)).1 ((slT P t).getD (0, 0)).2 (partCells s ps), .sl s.nk ((slT P t).getD (0, 0)).2 0 n)
  | .convert src dst x => if strT P src = true ∧ bytesT P dst = true then some ((s.ev x).1 = true ∧ (s.ev x).2.strP, .row ((slT P dst).getD (0, 0)).1 1 ((s.ev x).2.strV.map byteRow), .sl s.nk 1 0 (s.ev x).2.strV.length) else none
  | _ => none


theorem slT_info {t : TypeId} (h1 : (slT P t).isSome = true) : ∃ e E i, slT P t = some (e, E) ∧ P.underlying t = some (.slice e) ∧ P.info? e = some i ∧ i.size = E := by
  cases hs : slT P t with
  | none => rw [hs] at h1; simp at h1
  | some p =>
    obtain ⟨e, E⟩ := p
    obtain ⟨h2, i, h3, h4⟩ := slT_spec hs
    exact ⟨e, E, i, rfl, h2, h3, h4⟩

theorem row_zero {m' : Mem} {w1 : World} {k b n E : Nat} {e : TypeId} {vs : Array Value} (hb : m'.b (.root k) = some b) (hw : w1.heap[b]? = some (.cells vs e (0, 0))) (zs : List Value) (hE : zs.length = E)
    (hle : n * E ≤ vs.size) (hv : ∀ i j x, i < n → zs[j]? = some x → vs[i * E + j]? = some x) : ChunkOk m' w1 k (.row e E (List.replicate n (zs.map .v))) := by
  refine .inr ⟨b, vs, (0, 0), hb, hw, Free.zero _, by simpa using hle, fun i row hi => ?_⟩
  simp only [List.getElem?_replicate] at hi
  split at hi
  · rename_i hin
    simp only [Option.some.injEq] at hi; subst hi
    refine ⟨by simpa using hE, fun j c hj => ?_⟩
    simp only [List.getElem?_map, Option.map_eq_some_iff] at hj
    obtain ⟨x, hx, rfl⟩ := hj
    exact ⟨x, hv i j x hin hx, rfl⟩
  · simp at hi

theorem madeCells_get (z : Array Value) (n E i j : Nat) (x : Value) (hE : z.size = E) (hi : i < n) (hx : z[j]? = some x) (c : Nat) (hc : n ≤ c) : (madeCells z (c * E))[i * E + j]? = some x := by
  have hj : j < E := by rw [← hE]; exact (Array.getElem?_eq_some_iff.1 hx).1
  have hlt : i * E + j < c * E := by
    have : (i + 1) * E ≤ c * E := Nat.mul_le_mul_right _ (by omega)
    rw [Nat.add_mul] at this; omega
  unfold madeCells
  rw [Array.getElem?_map, Array.getElem?_range, if_pos hlt]
  simp only [Option.map_some, hE]
  have hmod : (i * E + j) % E = j := by rw [Nat.mul_comm, Nat.mul_add_mod]; exact Nat.mod_eq_of_lt hj
  rw [hmod]
  have : z[j]! = x := by
    obtain ⟨h1, h2⟩ := Array.getElem?_eq_some_iff.1 hx
    simp [h1, h2]
  rw [this]

/-! #### a literal's cells -/
theorem foldl_set (off : Nat) : ∀ (vs : List Value) (i : Nat) (cs : Array Value), off + i + vs.length ≤ cs.size →
    ((vs.zipIdx i).foldl (fun cs (c, j) => cs.setIfInBounds (off + j) c) cs).size = cs.size ∧
    (∀ q, off + i ≤ q → q < off + i + vs.length → ((vs.zipIdx i).foldl (fun cs (c, j) => cs.setIfInBounds (off + j) c) cs)[q]? = vs[q - (off + i)]?) ∧
    (∀ q, (q < off + i ∨ off + i + vs.length ≤ q) → ((vs.zipIdx i).foldl (fun cs (c, j) => cs.setIfInBounds (off + j) c) cs)[q]? = cs[q]?)
  | [], i, cs, h => by
    refine ⟨rfl, fun q h1 h2 => ?_, fun _ _ => rfl⟩
    simp only [List.length_nil] at h2; omega
  | v :: vs, i, cs, h => by
    simp only [List.length_cons] at h
    simp only [List.zipIdx_cons, List.foldl_cons, List.length_cons]
    obtain ⟨h1, h2, h3⟩ := foldl_set off vs (i + 1) (cs.setIfInBounds (off + i) v) (by simp; omega)
    refine ⟨by rw [h1]; simp, fun q hq1 hq2 => ?_, fun q hq => ?_⟩
    · by_cases hq : q = off + i
      · subst hq
        rw [h3 _ (by omega)]
        have : off + i < cs.size := by omega
        simp [this]
      · rw [h2 q (by omega) (by omega)]
        rw [show q - (off + i) = (q - (off + (i + 1))) + 1 by omega, List.getElem?_cons_succ]
    · rw [h3 q (by omega), Array.getElem?_setIfInBounds_ne (by omega)]

theorem fill_seq {m : Mem} {s : St} {a : Act} (hok : ∀ y, (s.ev y).1 = true → Ok m (s.ev y).2 (a.eval y)) (E : Nat) (hE : 0 < E) : ∀ (ps : List (Nat × Operand)) (i : Nat) (cs : Array Value), partsOk s E i ps → (i + ps.length) * E ≤ cs.size →
    ∃ cs', Instr.fill (fun i => some (i * E, E)) cs (ps.map fun p => (p.1, a.eval p.2)) = some cs' ∧ cs'.size = cs.size ∧ (∀ q, q < i * E → cs'[q]? = cs[q]?) ∧
      (∀ n p, ps[n]? = some p → Oks m (boxCells (s.ev p.2).2) ((cs'.toList.drop ((i + n) * E)).take E))
  | [], i, cs, _, _ => ⟨cs, rfl, rfl, fun _ _ => rfl, fun n p hp => by simp at hp⟩
  | (j, x) :: ps, i, cs, h, hs => by
    simp only [partsOk] at h
    obtain ⟨rfl, h1, h2, h3, h4⟩ := h
    simp only [List.length_cons] at hs
    have hx := hok x h1
    obtain ⟨c1, c2⟩ := cells_ok hx h2
    have hl : (a.eval x).cells.size = E := by rw [← h3, ← c1.length]; simp
    have hb : j * E + E ≤ cs.size := by
      have : (j + 1) * E ≤ (j + (ps.length + 1)) * E := Nat.mul_le_mul_right _ (by omega)
      rw [Nat.add_mul] at this; omega
    obtain ⟨f1, f2, f3⟩ := foldl_set (j * E) (a.eval x).cells.toList 0 cs (by simp [hl]; omega)
    obtain ⟨cs', g1, g2, g3, g4⟩ := fill_seq hok E hE ps (j + 1) (((a.eval x).cells.toList.zipIdx 0).foldl (fun cs (c, q) => cs.setIfInBounds (j * E + q) c) cs) h4 (by rw [f1]; rw [show j + 1 + ps.length = j + (ps.length + 1) by omega]; exact hs)
    refine ⟨cs', ?_, by rw [g2, f1], fun q hq => ?_, fun n p hp => ?_⟩
    · simp only [List.map_cons, Instr.fill]
      rw [if_neg (by simp [hl]; omega)]
      have : (a.eval x).cells.zipIdx.foldl (fun cs (c, q) => cs.setIfInBounds (j * E + q) c) cs = ((a.eval x).cells.toList.zipIdx 0).foldl (fun cs (c, q) => cs.setIfInBounds (j * E + q) c) cs := by
        rw [← Array.foldl_toList]; simp
      rw [this]
      exact g1
    · rw [g3 q (by rw [Nat.add_mul]; omega), f3 q (by left; omega)]
    · cases n with
      | zero =>
        simp only [List.getElem?_cons_zero, Option.some.injEq] at hp
        subst hp
        have : (cs'.toList.drop ((j + 0) * E)).take E = (a.eval x).cells.toList := by
          apply List.ext_getElem?
          intro q
          by_cases hq : q < E
          · rw [List.getElem?_take_of_lt hq, List.getElem?_drop, Nat.add_zero, Array.getElem?_toList, g3 (j * E + q) (by rw [Nat.add_mul]; omega), f2 (j * E + q) (by omega) (by simp [hl]; omega)]
            rw [show j * E + q - (j * E + 0) = q by omega]
          · rw [List.getElem?_eq_none (by simp; omega), List.getElem?_eq_none (by simp [hl]; omega)]
        rw [this]
        exact c1
      | succ n =>
        have := g4 n p (by simpa using hp)
        rw [show j + (n + 1) = j + 1 + n by omega]
        exact this

theorem mem_of_all {rows : List (List AV)} (h : rows.all (·.all isV) = true) {i : Nat} {row : List AV} (hi : rows[i]? = some row) : ∀ x ∈ row, isV x = true := by
  have := List.all_eq_true.1 h row (List.mem_of_getElem? hi)
  exact List.all_eq_true.1 this

theorem lit_ok {m' : Mem} {w1 : World} {k b n E : Nat} {e : TypeId} {vs : Array Value} (hb : m'.b (.root k) = some b) (hw : w1.heap[b]? = some (.cells vs e (0, 0))) (rows : List (List AV)) (hn : rows.length = n) (hE : 0 < E) (hl : ∀ (i : Nat) row, rows[i]? = some row → row.length = E)
    (hsz : vs.size = n * E) (hv : ∀ (i : Nat) row, rows[i]? = some row → Oks m' row ((vs.toList.drop (i * E)).take E)) : ChunkOk m' w1 k (litChunk e E rows) := by
  unfold litChunk
  split
  · rename_i hall
    refine .inr ⟨b, vs, (0, 0), hb, hw, Free.zero _, by rw [List.length_map, hn, hsz]; exact Nat.le_refl _, fun i row hi => ?_⟩
    simp only [List.getElem?_map, Option.map_eq_some_iff] at hi
    obtain ⟨row', hi, rfl⟩ := hi
    refine ⟨by simpa using hl i row' hi, fun j c hj => ?_⟩
    simp only [List.getElem?_map, Option.map_eq_some_iff] at hj
    obtain ⟨x, hx, rfl⟩ := hj
    obtain ⟨u, hu, hok⟩ := (hv i row' hi).get hx
    have hjl := (List.getElem?_eq_some_iff.1 hx).1
    rw [hl i row' hi] at hjl
    rw [List.getElem?_take_of_lt hjl, List.getElem?_drop] at hu
    refine ⟨u, by simpa using hu, ?_⟩
    have hiv := mem_of_all hall hi x (List.mem_of_getElem? hx)
    cases x <;> simp only [isV] at hiv <;> try (simp at hiv; done)
    rw [ok_v] at hok
    exact hok
  · refine ⟨b, vs, (0, 0), hb, hw, Free.zero _, ?_⟩
    have key : ∀ (rows : List (List AV)) (us : List Value), us.length = rows.length * E → (∀ (i : Nat) row, rows[i]? = some row → row.length = E) → (∀ (i : Nat) row, rows[i]? = some row → Oks m' row ((us.drop (i * E)).take E)) → Oks m' rows.flatten us := by
      intro rows
      induction rows with
      | nil => intro us h1 _ _; simp at h1; subst h1; simp only [List.flatten_nil, Oks]
      | cons r rows ih =>
        intro us h1 h2 h3
        have hr := h3 0 r rfl
        have hlr := h2 0 r rfl
        simp only [Nat.zero_mul, List.drop_zero] at hr
        have ht := ih (us.drop E) (by rw [List.length_drop, h1, List.length_cons, Nat.add_mul]; omega) (fun i row hi => h2 (i + 1) row (by simpa using hi)) (fun i row hi => by
          have := h3 (i + 1) row (by simpa using hi)
          rw [List.drop_drop]; rw [Nat.add_mul, Nat.one_mul, Nat.add_comm] at this; exact this)
        rw [List.flatten_cons]
        have happ : ∀ (xs ys : List AV) (us vs : List Value), Oks m' xs us → Oks m' ys vs → Oks m' (xs ++ ys) (us ++ vs) := by
          intro xs
          induction xs with
          | nil => intro ys us vs h1 h2; simp only [Oks] at h1; subst h1; exact h2
          | cons x xs ihx =>
            intro ys us vs h1 h2
            simp only [Oks] at h1
            obtain ⟨u, us', rfl, h3, h4⟩ := h1
            simp only [List.cons_append, Oks]
            exact ⟨u, _, rfl, h3, ihx ys us' vs h4 h2⟩
        have := happ _ _ _ _ hr ht
        rwa [List.take_append_drop] at this
    exact key rows vs.toList (by simp [hsz, hn]) hl hv

theorem partCells_get {s : St} {ps : List (Nat × Operand)} {n : Nat} {row : List AV} (h : (partCells s ps)[n]? = some row) : ∃ p, ps[n]? = some p ∧ row = boxCells (s.ev p.2).2 := by
  simp only [partCells, List.getElem?_map, Option.map_eq_some_iff] at h
  obtain ⟨p, hp, rfl⟩ := h
  exact ⟨p, hp, rfl⟩
theorem partsOk_len {s : St} {E : Nat} : ∀ {ps : List (Nat × Operand)} {i n : Nat} {p : Nat × Operand}, partsOk s E i ps → ps[n]? = some p → (boxCells (s.ev p.2).2).length = E
  | [], i, n, p, _, h => by simp at h
  | (j, x) :: ps, i, n, p, h, hp => by
    simp only [partsOk] at h
    cases n with
    | zero => simp at hp; subst hp; exact h.2.2.2.1
    | succ n => exact partsOk_len h.2.2.2.2 (by simpa using hp)

theorem newOp_sound {B : Base} {m : Mem} {s : St} {a : Act} {w : World} {o : Oper} {safe : Prop} {ch : Chunk} {av : AV} (hp : newOp P s o.op = some (safe, ch, av)) (hs : safe) (h : Sat B m s a w) :
    ∃ u w1 m', (execOp a.eval o).run P w = .ok (.value u) w1 ∧ Ok m' av u ∧ Sat B m' (s.newk ch) a w1 ∧ RowKit.Below w.heap.size w w1 := by
  have hok := fun y hy => ev_ok h y hy
  unfold newOp at hp
  split at hp
  case h_1 e x ho =>
    simp only [Option.some.injEq, Prod.mk.injEq] at hp; obtain ⟨rfl, rfl, rfl⟩ := hp
    obtain ⟨p1, p2⟩ := hs
    obtain ⟨c1, c2⟩ := cells_ok (hok x p1) p2
    obtain ⟨m', h1, h2, h3, h4⟩ := h.new (NewB.alloc w (a.eval x).cells e (0, 0)) (ch := .box e (boxCells (s.ev x).2)) (fun m' hle hr hz => ⟨_, _, _, hr, heap_alloc_new w _, Free.zero _, Oks.mono hle _ _ c1⟩)
    refine ⟨.pointer (some ⟨w.heap.size, 0, none⟩), _, m', ?_, ?_, h4, (NewB.alloc w _ _ _).below⟩
    · simp [execOp, ho, Instr.box, newVar, newRow]
    · simp only [Ok]; exact ⟨_, h2, by simp⟩
  case h_2 e ho =>
    simp only [Option.some.injEq, Prod.mk.injEq] at hp; obtain ⟨rfl, rfl, rfl⟩ := hp
    cases hz : zeroT P e with
    | none => rw [hz] at hs; simp at hs
    | some z =>
      have hzc : zcells P e = z.cells.toList := by simp [zcells, hz]
      obtain ⟨m', h1, h2, h3, h4⟩ := h.new (NewB.alloc w z.cells e (0, 0)) (ch := .box e ((zcells P e).map .v)) (fun m' hle hr hz => ⟨_, _, _, hr, heap_alloc_new w _, Free.zero _, by rw [hzc]; exact Oks.vs _⟩)
      refine ⟨.pointer (some ⟨w.heap.size, 0, none⟩), _, m', ?_, ?_, h4, (NewB.alloc w _ _ _).below⟩
      · unfold zeroT at hz
        cases hi : P.info? e with
        | none => rw [hi] at hz; simp at hz
        | some i =>
          rw [hi] at hz
          simp only [Option.bind_some] at hz
          simp [execOp, ho, Instr.alloc, zeroValue, typeInfo, hi, hz, newVar, newRow]
      · simp only [Ok]; exact ⟨_, h2, by simp⟩
  case h_3 t l c ho =>
    simp only [Option.some.injEq, Prod.mk.injEq] at hp; obtain ⟨rfl, rfl, rfl⟩ := hp
    obtain ⟨⟨p1, p2, p3, p4⟩, ⟨q1, q2, q3, q4⟩, r1, r2, r3, r4⟩ := hs
    obtain ⟨e, E, i, hT, hu, hi, hsz⟩ := slT_info q1
    rw [hT] at q2 q3 q4 r4 ⊢
    simp only [Option.bind_some, Option.getD_some] at q2 q3 q4 r4 ⊢
    obtain ⟨kl, l', hl⟩ := intP_inv p2
    obtain ⟨kc, c', hc⟩ := intP_inv p4
    have el := hok l p1; have ec := hok c p3
    rw [hl, ok_v] at el; rw [hc, ok_v] at ec
    rw [hl] at r1 r2 ⊢; rw [hc] at r2 r3
    simp only [AV.intV] at r1 r2 r3 ⊢
    cases hz : zeroT P e with
    | none => rw [hz] at q2; simp at q2
    | some z =>
      have hzc : zcells P e = z.cells.toList := by simp [zcells, hz]
      have hz' : i.zero = some z := by unfold zeroT at hz; rw [hi] at hz; simpa using hz
      have hE : z.cells.size = E := by rw [← q3, hzc]; simp
      rw [hi] at r4
      simp only [Option.map_some, Option.getD_some] at r4
      have hbytes : (i.bytes : Int) * c' ≤ 281474976710656 := by
        have h1 : (i.bytes : Int) * c' ≤ 256 * c' := Int.mul_le_mul_of_nonneg_right (by omega) (by omega)
        omega
      have hrun := run_make (P := P) w t e i z hu hi hz' kl kc l' c' r1 r2 hbytes (by omega)
      rw [hsz] at hrun
      obtain ⟨m', h1, h2, h3, h4⟩ := h.new (NewB.alloc w (madeCells z.cells (c'.toNat * E)) e (0, 0)) (ch := .row e E (List.replicate l'.toNat ((zcells P e).map .v))) (fun m' hle hr hz => by
        rw [hzc]
        refine row_zero hr (heap_alloc_new w _) z.cells.toList (by simpa using hE) ?_ ?_
        · rw [size_madeCells]; exact Nat.mul_le_mul_right _ (by omega)
        · intro i j x hi hx
          exact madeCells_get z.cells l'.toNat E i j x hE hi (by simpa using hx) _ (by omega))
      refine ⟨.slice (some ⟨w.heap.size, 0, none⟩) l'.toNat c'.toNat, _, m', ?_, ?_, h4, (NewB.alloc w _ _ _).below⟩
      · have := run_v hrun
        simp only [execOp, ho, el, ec]
        exact this
      · simp only [Ok]
        refine ⟨_, _, rfl, by omega, .inl ⟨_, h2, by simp, ?_⟩⟩
        rw [h3, size_madeCells, Nat.zero_add]; exact Nat.le_refl _
  case h_4 t n ps ho =>
    simp only [Option.some.injEq, Prod.mk.injEq] at hp; obtain ⟨rfl, rfl, rfl⟩ := hp
    obtain ⟨q1, q2, q3, q4, q5, q6, q7⟩ := hs
    obtain ⟨e, E, i, hT, hu, hi, hsz⟩ := slT_info q1
    rw [hT] at q2 q3 q4 q6 q7 ⊢
    simp only [Option.bind_some, Option.getD_some] at q2 q3 q4 q6 q7 ⊢
    cases hz : zeroT P e with
    | none => rw [hz] at q3; simp at q3
    | some z =>
      have hz' : i.zero = some z := by unfold zeroT at hz; rw [hi] at hz; simpa using hz
      let C0 : Array Value := if n * E = 0 then (Array.range (n * E)).map ((#[] : Array Value)[· % 0]!) else (Array.range (n * E)).map (z.cells[· % z.cells.size]!)
      have hC0 : C0.size = n * E := by simp only [C0]; split <;> simp
      obtain ⟨cs', f1, f2, f3, f4⟩ := fill_seq hok E q2 ps 0 C0 q7 (by rw [hC0, q5, Nat.zero_add]; exact Nat.le_refl _)
      obtain ⟨m', h1, h2, h3, h4⟩ := h.new (NewB.alloc w cs' e (0, 0)) (ch := litChunk e E (partCells s ps)) (fun m' hle hr hz => by
        refine lit_ok (n := n) hr (heap_alloc_new w _) (partCells s ps) (by simp [partCells, q5]) q2 (fun i row hi => ?_) (by rw [f2, hC0]) (fun i row hi => ?_)
        · obtain ⟨p, hp, rfl⟩ := partCells_get hi; exact partsOk_len q7 hp
        · obtain ⟨p, hp, rfl⟩ := partCells_get hi
          have := f4 i p hp
          rw [Nat.zero_add] at this
          exact Oks.mono hle _ _ this)
      refine ⟨.slice (some ⟨w.heap.size, 0, none⟩) n n, _, m', ?_, ?_, h4, (NewB.alloc w _ _ _).below⟩
      · have hrun : (Instr.buildSlice t n ((ps.map fun p => (p.1, a.eval p.2)).toArray)).run P w = .ok (.slice (some ⟨w.heap.size, 0, none⟩) n n) (w.alloc (.cells cs' e (0, 0))) := by
          unfold Instr.buildSlice
          simp only [Sem.run_bind, run_underlying hu, Result.andThen_ok, run_sizeOf hi, hsz]
          rw [if_neg (by omega)]
          by_cases hn0 : n * E = 0
          · simp only [hn0, if_true, C0] at f1 ⊢
            simp only [Sem.run_bind, Sem.run_pure, Result.andThen_ok, List.toList_toArray]
            have f1' := f1
            simp only [Array.range_zero', Array.map_empty] at f1' ⊢
            rw [f1']
            simp [newRow]
          · simp only [hn0, if_false, C0] at f1 ⊢
            simp [zeroValue, typeInfo, hi, hz', f1, newRow]
        have := run_v hrun
        simp only [execOp, ho]
        simpa using this
      · simp only [Ok]
        refine ⟨_, _, rfl, Nat.le_refl _, .inl ⟨_, h2, by simp, ?_⟩⟩
        rw [h3, f2, hC0, Nat.zero_add]; exact Nat.le_refl _
  case h_5 src dst x ho =>
    split at hp
    · rename_i hT
      simp only [Option.some.injEq, Prod.mk.injEq] at hp; obtain ⟨rfl, rfl, rfl⟩ := hp
      obtain ⟨p1, p2⟩ := hs
      obtain ⟨e, hd, he, hsl⟩ := bytesT_spec hT.2
      obtain ⟨str0, hx⟩ := strP_inv p2
      have ex := hok x p1
      rw [hx, ok_v] at ex
      have hrun := run_bytes_of_string (P := P) w src dst e str0 (strT_spec hT.1) hd he
      rw [hx, hsl]
      simp only [Option.getD_some, AV.strV]
      have hge := grownCap_ge w str0.size 0 e
      generalize grownCap w str0.size 0 e = cap at *
      have hbs : (bytesRow str0 cap).size = cap := by simp [bytesRow]; omega
      obtain ⟨m', h1, h2, h3, h4⟩ := h.new (NewB.alloc_drew w (bytesRow str0 cap) e ((bytesRow str0 cap).size, (bytesRow str0 cap).size + 1)) (ch := .row e 1 (str0.data.toList.map byteRow)) (fun m' hle hr hz => by
        refine .inr ⟨_, _, _, hr, heap_alloc_new w.drew _, fun i hi hc => by simp only at hc; omega, by rw [List.length_map, bsize, hbs]; omega, fun i row hi => ?_⟩
        simp only [List.getElem?_map, Option.map_eq_some_iff] at hi
        obtain ⟨b, hb, rfl⟩ := hi
        refine ⟨rfl, fun j c hj => ?_⟩
        cases j with
        | zero =>
          simp only [byteRow, List.getElem?_cons_zero, Option.some.injEq] at hj
          subst hj
          have hil := (List.getElem?_eq_some_iff.1 hb).1
          refine ⟨_, ?_, rfl⟩
          unfold bytesRow
          rw [Nat.mul_one, Nat.add_zero, Array.getElem?_append_left (by simpa using hil), Array.getElem?_map]
          have : str0.data[i]? = some b := by simpa using hb
          rw [this]; rfl
        | succ j => simp [byteRow] at hj)
      refine ⟨.slice (some ⟨w.heap.size, 0, none⟩) str0.size cap, _, m', ?_, ?_, h4, (NewB.alloc_drew w _ _ _).below⟩
      · have := run_v hrun
        simp only [execOp, ho, ex]
        exact this
      · simp only [Ok]
        refine ⟨_, _, by rw [bsize], by rw [bsize]; exact hge, .inl ⟨_, h2, by simp, ?_⟩⟩
        rw [h3, hbs]; omega
    · simp at hp
  case h_6 => simp at hp

end Go.Eng

/- The engine, part I: stores. -/
set_option linter.unusedVariables false
set_option linter.unusedSimpArgs false
namespace Go.Eng
open Go

variable {P : Program}

/-! ### A block's cells are written -/
structure WSet (w w' : World) (b : Nat) (vs : Array Value) (e : TypeId) (fr : Nat × Nat) : Prop where
  size : w'.heap.size = w.heap.size
  os : w'.os = w.os
  tape : w'.tape = w.tape
  output : w'.output = w.output
  at_ : w'.heap[b]? = some (.cells vs e fr)
  other : ∀ k, k ≠ b → w'.heap[k]? = w.heap[k]?

theorem setCell_heap (w : World) (b o : Nat) (u : Value) {cs : Array Value} {e : TypeId} {fr : Nat × Nat} (h : w.heap[b]? = some (.cells cs e fr)) : (w.setCell ⟨b, o, none⟩ u).heap[b]? = some (.cells (cs.setIfInBounds o u) e fr) := by
  simp [World.setCell, Array.getElem?_modify, h]

theorem run_storeCells {b : Nat} {e : TypeId} {fr : Nat × Nat} {o : Nat} : ∀ (vs : List Value) (i : Nat) (cs : Array Value) (w : World), w.heap[b]? = some (.cells cs e fr) → Free cs fr → o + i + vs.length ≤ cs.size → (∀ v ∈ vs, v.oneCell' = true) →
    ∃ w' cs', (storeCells ⟨b, o, none⟩ vs i).run P w = .ok () w' ∧ WSet w w' b cs' e fr ∧ cs'.toList = setL cs.toList (o + i) vs
  | [], i, cs, w, h, _, _, _ => ⟨w, cs, by simp [storeCells], ⟨rfl, rfl, rfl, rfl, h, fun _ _ => rfl⟩, rfl⟩
  | v :: vs, i, cs, w, h, hf, hs, h1 => by
    simp only [List.length_cons] at hs
    have hcell : w.cell? ⟨b, o + i, none⟩ = some (cs.getD (o + i) undef) := by
      have : o + i < cs.size := by omega
      simp [World.cell?, h, Array.getD, this]
    have hfr : w.frozen? ⟨b, o + i, none⟩ = false := by
      have := hf (o + i) (by omega)
      simp only [World.frozen?, h]
      simp
      intro h1; simp only [not_and] at this; have := this h1; omega
    have hst := run_store P w ⟨b, o + i, none⟩ v .plain (h1 v (by simp))
    rw [hcell] at hst
    simp only [hfr, Bool.false_eq_true, if_false] at hst
    obtain ⟨w', cs', g1, g2, g3⟩ := run_storeCells (o := o) vs (i + 1) (cs.setIfInBounds (o + i) v) (w.setCell ⟨b, o + i, none⟩ v) (setCell_heap w b (o + i) v h) (by simpa [Free] using hf) (by simp; omega) (fun u hu => h1 u (by simp [hu]))
    refine ⟨w', cs', ?_, ⟨by rw [g2.size]; simp [World.setCell], by rw [g2.os]; rfl, by rw [g2.tape]; rfl, by rw [g2.output]; rfl, g2.at_, fun k hk => ?_⟩, ?_⟩
    · simp only [storeCells, Sem.run_bind, add_none, hst, Result.andThen_ok]
      exact g1
    · rw [g2.other k hk]
      exact RowKit.Below.heap_setCell w ⟨b, o + i, none⟩ v k hk
    · rw [g3, setL]; simp [Nat.add_assoc]

theorem WSet.bsz {w w' : World} {b : Nat} {vs cs : Array Value} {e e' : TypeId} {fr fr' : Nat × Nat} (h : WSet w w' b vs e fr) (h0 : w.heap[b]? = some (.cells cs e' fr')) (hs : vs.size = cs.size) (k : Nat) : bsz w' k = bsz w k := by
  unfold Go.Eng.bsz
  by_cases hk : k = b
  · subst hk; rw [h.at_, h0]; exact hs
  · rw [h.other k hk]

def setH : Heap → Nat → Chunk → Heap
  | [], _, _ => []
  | (k', c') :: r, k, c => if k' = k then (k', c) :: r else (k', c') :: setH r k c
theorem look_setH (k : Nat) (c : Chunk) : ∀ (h : Heap) (k' : Nat), look? (setH h k c) k' = if k' = k then (look? h k).map (fun _ => c) else look? h k'
  | [], k' => by simp [setH, look?]
  | (q, d) :: r, k' => by
    simp only [setH]
    by_cases hq : q = k
    · rw [if_pos hq]; subst hq
      simp only [look?]
      by_cases hk : k' = q
      · subst hk; simp
      · rw [if_neg (Ne.symm hk), if_neg hk, if_neg (Ne.symm hk)]
    · rw [if_neg hq]
      simp only [look?, look_setH k c r k']
      by_cases hk : q = k'
      · subst hk; rw [if_pos rfl, if_neg hq, if_pos rfl]
      · rw [if_neg hk, if_neg hk, if_neg hq]

/-- One chunk's blocks have been written, the rest is as it was. -/
theorem Sat.write {B : Base} {m : Mem} {s : St} {a : Act} {w w' : World} (h : Sat B m s a w) {k b : Nat} {l : Lab} (hl : l = .root k ∨ ∃ i j, l = .sub k i j) (hb : m.b l = some b) {vs cs : Array Value} {e e' : TypeId} {fr fr' : Nat × Nat} (hw : WSet w w' b vs e fr)
    (h0 : w.heap[b]? = some (.cells cs e' fr')) (hs : vs.size = cs.size) {ch : Chunk} (hch : ChunkOk m w' k ch) : Sat B m ⟨s.t, setH s.h k ch, s.nk, s.N⟩ a w' := by
  have hz := hw.bsz h0 hs
  refine ⟨h.defers, h.size, h.r, ⟨h.core.inj, fun l b hl => by rw [hw.size]; exact h.core.lt l b hl, fun b => by rw [hz, h.core.z], fun c o hr => ?_, h.core.new, fun k' c hk => ?_⟩, h.own, ?_, h.tmps⟩
  · obtain ⟨h1, h2⟩ := h.core.ro c o hr
    refine ⟨?_, h2⟩
    rw [hw.other c (fun hc => h2 l (by rw [hc]; exact hb))]; exact h1
  · rw [look_setH] at hk
    split at hk
    · rename_i he; subst he
      cases hk' : look? s.h k' with
      | none => rw [hk'] at hk; simp at hk
      | some c0 =>
        rw [hk'] at hk
        simp only [Option.map_some, Option.some.injEq] at hk
        subst hk; exact hch
    · rename_i hne
      refine (h.core.chunk k' c hk).keep ⟨rfl, fun _ _ h => h, fun _ _ _ => Nat.le_refl _⟩ (fun _ _ => rfl) rfl fun l' b' hl' hk' => hw.other b' fun hbb => ?_
      subst hbb
      have := h.core.inj _ _ _ hl' hb
      rcases hl with rfl | ⟨i, j, rfl⟩ <;> rcases hk' with rfl | ⟨i', j', rfl⟩ <;> cases this <;> exact hne rfl
  · refine ⟨by rw [hw.size]; exact h.frm.size, by rw [hw.os]; exact h.frm.os, by rw [hw.tape]; exact h.frm.tape, by rw [hw.output]; exact h.frm.output, fun c h1 h2 => ?_⟩
    have : c ≠ b := by
      intro hc; subst hc
      rcases h.own l c hb with h3 | h3
      · exact h2 h3
      · omega
    rw [hw.other c this]; exact h.frm.block c h1 h2

/-! ### store -/
def flatOk (x : AV) : Prop := (boxCells x).all isV = true
/-- What a store leaves of the memory. -/
def storeH (h : Heap) (p x : AV) : Heap :=
  match p with
  | .ptr k E i j => match look? h k with
    | some (.box e cells) => setH h k (.box e (setL cells (i * E + j) (boxCells x)))
    | some (.row e E' rows) => setH h k (.row e E' (rows.set i (setL (rows.getD i []) j ((boxCells x).map toCell))))
    | _ => h
  | .subp k i j E l q => match look? h k with
    | some (.row e E' rows) => match (rows.getD i [])[j]? with
      | some (.s e2 E2 rs) => setH h k (.row e E' (rows.set i ((rows.getD i []).set j (.s e2 E2 (rs.set l (setL (rs.getD l []) q ((boxCells x).map fun y => match y with | .v z => z | _ => undef)))))))
      | _ => h
    | _ => h
  | _ => h
def storeP (P : Program) (h : Heap) (t : TypeId) (p x : AV) : Prop :=
  cellsP x ∧ szT P t = some (boxCells x).length ∧
  match p with
  | .ptr k E i j => match look? h k with
    | some (.box _ cells) => i * E + j + (boxCells x).length ≤ cells.length
    | some (.row _ E' rows) => flatOk x ∧ E' = E ∧ i < rows.length ∧ j + (boxCells x).length ≤ (rows.getD i []).length
    | _ => False
  | .subp k i j E l q => match look? h k with
    | some (.row _ _ rows) => flatOk x ∧ i < rows.length ∧ (match (rows.getD i [])[j]? with | some (.s _ E2 rs) => E2 = E ∧ l < rs.length ∧ q + (boxCells x).length ≤ (rs.getD l []).length | _ => False)
    | _ => False
  | _ => False

theorem flat_get {m : Mem} {x : AV} {u : Value} (hx : Ok m x u) (hc : cellsP x) (hf : flatOk x) : ∀ (n : Nat) y, (boxCells x)[n]? = some y → ∃ v, y = .v v ∧ u.cells.toList[n]? = some v := by
  obtain ⟨c1, c2⟩ := cells_ok hx hc
  intro n y hy
  have := List.all_eq_true.1 hf y (List.mem_of_getElem? hy)
  obtain ⟨v, hv, hok⟩ := c1.get hy
  cases y <;> simp only [isV] at this <;> try (simp at this; done)
  rw [ok_v] at hok; subst hok
  exact ⟨_, rfl, hv⟩

theorem store_run {B : Base} {m : Mem} {s : St} {a : Act} {w : World} (h : Sat B m s a w) {t : TypeId} {p x : AV} {u v : Value} (hp : Ok m p u) (hx : Ok m x v) (hs : storeP P s.h t p x) :
    ∃ w', (Instr.storeAt t u v).run P w = .ok () w' ∧ Sat B m ⟨s.t, storeH s.h p x, s.nk, s.N⟩ a w' := by
  obtain ⟨hc, hsz, hs⟩ := hs
  obtain ⟨c1, c2⟩ := cells_ok hx hc
  have hlen : v.cells.toList.length = (boxCells x).length := c1.length
  have run : ∀ (b o : Nat) (w' : World), (storeCells ⟨b, o, none⟩ v.cells.toList 0).run P w = .ok () w' → (Instr.storeAt t (.pointer (some ⟨b, o, none⟩)) v).run P w = .ok () w' := by
    intro b o w' hr
    unfold szT at hsz
    cases hi : P.info? t with
    | none => rw [hi] at hsz; simp at hsz
    | some i =>
      rw [hi] at hsz
      simp only [Option.map_some, Option.some.injEq] at hsz
      have : v.cells.size = i.size := by rw [hsz, ← hlen]; simp
      simp [Instr.storeAt, Instr.sureAddr, storeVar, run_sizeOf hi, this, hr]
  cases p <;> simp only at hs
  case ptr k E i j =>
    simp only [Ok] at hp
    obtain ⟨b, hb, rfl⟩ := hp
    cases hk : look? s.h k with
    | none => rw [hk] at hs; exact hs.elim
    | some ch =>
      rw [hk] at hs
      have hch := h.core.chunk k ch hk
      cases ch with
      | pin _ _ _ => exact hs.elim
      | fact _ _ => exact hs.elim
      | box e cells =>
        obtain ⟨b', vs, fr, h1, h2, h3, h4⟩ := hch
        rw [hb] at h1; simp at h1; subst h1
        simp only at hs
        have e1 := h4.length
        obtain ⟨w', cs', g1, g2, g3⟩ := run_storeCells (P := P) (o := i * E + j) v.cells.toList 0 vs w h2 h3 (by rw [hlen]; simp at e1; omega) c2
        refine ⟨w', run _ _ _ g1, ?_⟩
        have hsz' : cs'.size = vs.size := by rw [← Array.length_toList, g3, setL_length]; simp
        simp only [storeH, hk]
        refine h.write (.inl rfl) hb g2 h2 hsz' ⟨b, cs', fr, hb, g2.at_, by simpa [Free, hsz'] using h3, ?_⟩
        rw [g3]
        exact h4.setL c1 _ hs
      | row e E' rows =>
        obtain ⟨hf, rfl, hi, hj⟩ := hs
        rcases hch with ⟨h1, _⟩ | ⟨b', vs, fr, h1, h2, h3, h4, h5⟩
        · rw [hb] at h1; simp at h1
        · rw [hb] at h1; simp at h1; subst h1
          have hrow : rows[i]? = some (rows.getD i []) := by simp [List.getD_eq_getElem?_getD, hi]
          obtain ⟨hE, hcells⟩ := h5 i _ hrow
          have hle : (i + 1) * E' ≤ rows.length * E' := Nat.mul_le_mul_right _ hi
          rw [Nat.add_mul] at hle
          obtain ⟨w', cs', g1, g2, g3⟩ := run_storeCells (P := P) (o := i * E' + j) v.cells.toList 0 vs w h2 h3 (by rw [hlen]; omega) c2
          refine ⟨w', run _ _ _ g1, ?_⟩
          have hsz' : cs'.size = vs.size := by rw [← Array.length_toList, g3, setL_length]; simp
          simp only [storeH, hk]
          refine h.write (.inl rfl) hb g2 h2 hsz' (.inr ⟨b, cs', fr, hb, g2.at_, by simpa [Free, hsz'] using h3, by rw [List.length_set, hsz']; exact h4, fun i' row hi' => ?_⟩)
          have cell : ∀ q, cs'[q]? = if i * E' + j ≤ q ∧ q < i * E' + j + (boxCells x).length then v.cells.toList[q - (i * E' + j)]? else vs[q]? := by
            intro q
            rw [← Array.getElem?_toList, g3, setL_get _ _ _ _ (by simp at hlen ⊢; omega), hlen]
            simp
          have keepC : ∀ (i' j' : Nat) (c : Cell) (y : Value), CellOk m w (.sub k i' j') c y → CellOk m w' (.sub k i' j') c y := by
            intro i' j' c y hcy
            cases c with
            | v z => exact hcy
            | s e2 E2 rs =>
              refine ⟨hcy.1, ?_⟩
              rcases hcy.2 with n | ⟨b2, vs2, fr2, n1, n2, n3⟩
              · exact .inl n
              · refine .inr ⟨b2, vs2, fr2, n1, ?_, n3⟩
                rw [g2.other b2 (fun hbb => by subst hbb; have := h.core.inj _ _ _ n1 hb; cases this)]; exact n2
          rw [List.getElem?_set] at hi'
          split at hi'
          · rename_i hii; subst hii
            try rw [if_pos hi] at hi'
            simp only [Option.some.injEq] at hi'
            subst hi'
            refine ⟨by rw [setL_length]; exact hE, fun j' c hj' => ?_⟩
            rw [setL_get _ _ _ _ (by simpa using hj), List.length_map] at hj'
            rw [cell]
            split at hj'
            · rename_i hjj
              rw [if_pos (by omega)]
              simp only [List.getElem?_map, Option.map_eq_some_iff] at hj'
              obtain ⟨y, hy, rfl⟩ := hj'
              obtain ⟨z, rfl, hz⟩ := flat_get hx hc hf _ _ hy
              exact ⟨z, by rw [show i * E' + j' - (i * E' + j) = j' - j by omega]; exact hz, rfl⟩
            · rename_i hjj
              rw [if_neg (by omega)]
              obtain ⟨y, hy, hco⟩ := hcells j' c hj'
              exact ⟨y, hy, keepC _ _ _ _ hco⟩
          · rename_i hii
            obtain ⟨r1, r2⟩ := h5 i' row hi'
            refine ⟨r1, fun j' c hj' => ?_⟩
            obtain ⟨y, hy, hco⟩ := r2 j' c hj'
            have hj2 : j' < E' := by rw [← r1]; exact (List.getElem?_eq_some_iff.1 hj').1
            refine ⟨y, ?_, keepC _ _ _ _ hco⟩
            rw [cell, if_neg, hy]
            intro hcon
            rcases Nat.lt_or_ge i' i with hlt | hge
            · have : (i' + 1) * E' ≤ i * E' := Nat.mul_le_mul_right _ hlt
              rw [Nat.add_mul] at this; omega
            · have : (i + 1) * E' ≤ i' * E' := Nat.mul_le_mul_right _ (by omega)
              rw [Nat.add_mul] at this; omega
  case subp k i j E l q =>
    simp only [Ok] at hp
    obtain ⟨b, hb, rfl⟩ := hp
    cases hk : look? s.h k with
    | none => rw [hk] at hs; exact hs.elim
    | some ch =>
      rw [hk] at hs
      have hch := h.core.chunk k ch hk
      cases ch with
      | box e cells => exact hs.elim
      | pin _ _ _ => exact hs.elim
      | fact _ _ => exact hs.elim
      | row e E' rows =>
        obtain ⟨hf, hi, hs⟩ := hs
        cases hcj : (rows.getD i [])[j]? with
        | none => rw [hcj] at hs; exact hs.elim
        | some c =>
          rw [hcj] at hs
          cases c with
          | v z => exact hs.elim
          | s e2 E2 rs =>
            obtain ⟨rfl, hl, hq⟩ := hs
            rcases hch with ⟨_, h0⟩ | ⟨b0, vs, fr, h1, h2, h3, h4, h5⟩
            · subst h0; simp at hi
            · have hrow : rows[i]? = some (rows.getD i []) := by simp [List.getD_eq_getElem?_getD, hi]
              obtain ⟨hE, hcells⟩ := h5 i _ hrow
              obtain ⟨y, hy, hsl, hn⟩ := hcells j _ hcj
              rcases hn with ⟨hn, _⟩ | ⟨b2, vs2, fr2, n1, n2, n3, n4, n5⟩
              · rw [hb] at hn; simp at hn
              · rw [hb] at n1; simp at n1; subst n1
                have hr2 : rs[l]? = some (rs.getD l []) := by simp [List.getD_eq_getElem?_getD, hl]
                obtain ⟨hE2, hc2⟩ := n5 l _ hr2
                have hle : (l + 1) * E2 ≤ rs.length * E2 := Nat.mul_le_mul_right _ hl
                rw [Nat.add_mul] at hle
                obtain ⟨w', cs', g1, g2, g3⟩ := run_storeCells (P := P) (o := l * E2 + q) v.cells.toList 0 vs2 w n2 n3 (by rw [hlen]; omega) c2
                refine ⟨w', run _ _ _ g1, ?_⟩
                have hsz' : cs'.size = vs2.size := by rw [← Array.length_toList, g3, setL_length]; simp
                have hne : b0 ≠ b := fun hbb => by subst hbb; have := h.core.inj _ _ _ h1 hb; cases this
                simp only [storeH, hk, hcj]
                refine h.write (.inr ⟨i, j, rfl⟩) hb g2 n2 hsz' (.inr ⟨b0, vs, fr, h1, by rw [g2.other b0 hne]; exact h2, h3, by rw [List.length_set]; exact h4, fun i' row hi' => ?_⟩)
                have cell : ∀ o, cs'[o]? = if l * E2 + q ≤ o ∧ o < l * E2 + q + (boxCells x).length then v.cells.toList[o - (l * E2 + q)]? else vs2[o]? := by
                  intro o
                  rw [← Array.getElem?_toList, g3, setL_get _ _ _ _ (by simp at hlen ⊢; omega), hlen]
                  simp
                have keepC : ∀ (i' j' : Nat) (c : Cell) (y : Value), (i' ≠ i ∨ j' ≠ j) → CellOk m w (.sub k i' j') c y → CellOk m w' (.sub k i' j') c y := by
                  intro i' j' c y hij hcy
                  cases c with
                  | v z => exact hcy
                  | s e3 E3 rs3 =>
                    refine ⟨hcy.1, ?_⟩
                    rcases hcy.2 with n | ⟨b3, vs3, fr3, m1, m2, m3⟩
                    · exact .inl n
                    · refine .inr ⟨b3, vs3, fr3, m1, ?_, m3⟩
                      rw [g2.other b3 (fun hbb => by subst hbb; have := h.core.inj _ _ _ m1 hb; cases this; rcases hij with hh | hh <;> exact hh rfl)]; exact m2
                rw [List.getElem?_set] at hi'
                split at hi'
                · rename_i hii; subst hii
                  try rw [if_pos hi] at hi'
                  simp only [Option.some.injEq] at hi'
                  subst hi'
                  refine ⟨by rw [List.length_set]; exact hE, fun j' c hj' => ?_⟩
                  rw [List.getElem?_set] at hj'
                  split at hj'
                  · rename_i hjj; subst hjj
                    split at hj'
                    · simp only [Option.some.injEq] at hj'
                      subst hj'
                      refine ⟨y, hy, ⟨by rw [List.length_set]; exact hsl, .inr ⟨b, cs', fr2, hb, g2.at_, by simpa [Free, hsz'] using n3, by rw [List.length_set, hsz']; exact n4, fun l' row hl' => ?_⟩⟩⟩
                      rw [List.getElem?_set] at hl'
                      split at hl'
                      · rename_i hll; subst hll
                        try rw [if_pos hl] at hl'
                        simp only [Option.some.injEq] at hl'
                        subst hl'
                        refine ⟨by rw [setL_length]; exact hE2, fun q' z hq' => ?_⟩
                        rw [setL_get _ _ _ _ (by simpa using hq), List.length_map] at hq'
                        rw [cell]
                        split at hq'
                        · rename_i hqq
                          rw [if_pos (by omega)]
                          simp only [List.getElem?_map, Option.map_eq_some_iff] at hq'
                          obtain ⟨y', hy', hz'⟩ := hq'
                          obtain ⟨z2, rfl, hz2⟩ := flat_get hx hc hf _ _ hy'
                          simp only at hz'
                          subst hz'
                          rw [show l * E2 + q' - (l * E2 + q) = q' - q by omega]; exact hz2
                        · rename_i hqq
                          rw [if_neg (by omega)]
                          exact hc2 q' z hq'
                      · rename_i hll
                        obtain ⟨r1, r2⟩ := n5 l' row hl'
                        refine ⟨r1, fun q' z hq' => ?_⟩
                        have hq2 : q' < E2 := by rw [← r1]; exact (List.getElem?_eq_some_iff.1 hq').1
                        rw [cell, if_neg, r2 q' z hq']
                        intro hcon
                        rcases Nat.lt_or_ge l' l with hlt | hge
                        · have : (l' + 1) * E2 ≤ l * E2 := Nat.mul_le_mul_right _ hlt
                          rw [Nat.add_mul] at this; omega
                        · have : (l + 1) * E2 ≤ l' * E2 := Nat.mul_le_mul_right _ (by omega)
                          rw [Nat.add_mul] at this; omega
                    · simp at hj'
                  · rename_i hjj
                    obtain ⟨y', hy', hco⟩ := hcells j' c hj'
                    exact ⟨y', hy', keepC _ _ _ _ (.inr (Ne.symm hjj)) hco⟩
                · rename_i hii
                  obtain ⟨r1, r2⟩ := h5 i' row hi'
                  refine ⟨r1, fun j' c hj' => ?_⟩
                  obtain ⟨y', hy', hco⟩ := r2 j' c hj'
                  exact ⟨y', hy', keepC _ _ _ _ (.inl (Ne.symm hii)) hco⟩

end Go.Eng

/- The engine, part J: append. -/
set_option linter.unusedVariables false
set_option linter.unusedSimpArgs false
namespace Go.Eng
open Go

variable {P : Program}

mutual
/-- What pointed at the row k is forgotten. -/
def kill (k : Nat) : AV → AV
  | .sl k' E lo n => if k' = k then .bad else .sl k' E lo n
  | .ptr k' E i j => if k' = k then .bad else .ptr k' E i j
  | .agg xs => .agg (kills k xs)
  | .tup xs => .tup (kills k xs)
  | .fn f xs => .fn f (kills k xs)
  | .v x => .v x
  | .rd E rows => .rd E rows
  | .rp row j => .rp row j
  | .rq xs j => .rq (kills k xs) j
  | .sub k' i j E lo n => .sub k' i j E lo n
  | .subp k' i j E l q => .subp k' i j E l q
  | .bad => .bad
def kills (k : Nat) : List AV → List AV
  | [] => []
  | x :: xs => kill k x :: kills k xs
end
def killC (k : Nat) : Chunk → Chunk
  | .box e cells => .box e (kills k cells)
  | .row e E rows => .row e E rows
  | .pin k' ob zz => if k' = k then .pin k' none 0 else .pin k' ob zz
  | .fact xs us => .fact (kills k xs) us
def killT (k : Nat) : List (Nat × Bool × AV) → List (Nat × Bool × AV)
  | [] => []
  | (d, c, x) :: r => (d, c, kill k x) :: killT k r
def killH (k : Nat) : Heap → Heap
  | [] => []
  | (k', c) :: r => (k', killC k c) :: killH k r

theorem look_killT (k : Nat) : ∀ (t : List (Nat × Bool × AV)) (d : Nat), look (true, .bad) (killT k t) d = ((look (true, .bad) t d).1, kill k (look (true, .bad) t d).2)
  | [], d => by simp [look, killT, kill]
  | (d', c, x) :: r, d => by
    simp only [killT, look]
    split
    · rfl
    · exact look_killT k r d
theorem look_killH (k : Nat) : ∀ (h : Heap) (k' : Nat), look? (killH k h) k' = (look? h k').map (killC k)
  | [], _ => rfl
  | (q, c) :: r, k' => by
    simp only [killH, look?]
    split
    · rfl
    · exact look_killH k r k'

structure Mem.leBut (m m' : Mem) (k : Nat) : Prop where
  r : m'.r = m.r
  b : ∀ l, l ≠ .root k → m'.b l = m.b l
  z : ∀ l b, l ≠ .root k → m.b l = some b → m.z b ≤ m'.z b

mutual
theorem kill_ok {m m' : Mem} {k : Nat} (h : m.leBut m' k) : ∀ (x : AV) (u : Value), Ok m x u → Ok m' (kill k x) u
  | .v _, _, hx => by simpa only [Ok, kill] using hx
  | .rd .., _, hx => by simp only [Ok, kill] at hx ⊢; rw [h.r]; exact hx
  | .rp .., _, hx => by simp only [Ok, kill] at hx ⊢; rw [h.r]; exact hx
  | .rq xs _, _, hx => by simp only [Ok, kill] at hx ⊢; obtain ⟨b, o, us, h1, h2, h3⟩ := hx; exact ⟨b, o, us, h1, by rw [h.r]; exact h2, kills_ok h xs us h3⟩
  | .sl k' E lo n, _, hx => by
    simp only [kill]
    split
    · exact ok_bad
    · rename_i hk
      have hne : Lab.root k' ≠ .root k := fun he => by cases he; exact hk rfl
      simp only [Ok] at hx ⊢; exact hx.mono (fun b hb => by rw [h.b _ hne]; exact hb) (fun b hb => h.z _ b hne hb)
  | .ptr k' E i j, _, hx => by
    simp only [kill]
    split
    · exact ok_bad
    · rename_i hk
      have hne : Lab.root k' ≠ .root k := fun he => by cases he; exact hk rfl
      simp only [Ok] at hx ⊢; obtain ⟨b, h1, h2⟩ := hx; exact ⟨b, by rw [h.b _ hne]; exact h1, h2⟩
  | .sub .., _, hx => by
    have hne : ∀ i j k', Lab.sub k' i j ≠ .root k := fun _ _ _ he => by cases he
    simp only [Ok, kill] at hx ⊢; exact hx.mono (fun b hb => by rw [h.b _ (hne _ _ _)]; exact hb) (fun b hb => h.z _ b (hne _ _ _) hb)
  | .subp .., _, hx => by
    have hne : ∀ i j k', Lab.sub k' i j ≠ .root k := fun _ _ _ he => by cases he
    simp only [Ok, kill] at hx ⊢; obtain ⟨b, h1, h2⟩ := hx; exact ⟨b, by rw [h.b _ (hne _ _ _)]; exact h1, h2⟩
  | .agg xs, _, hx => by simp only [Ok, kill] at hx ⊢; obtain ⟨us, h1, h2⟩ := hx; exact ⟨us, h1, kills_ok h xs us h2⟩
  | .tup xs, _, hx => by simp only [Ok, kill] at hx ⊢; obtain ⟨us, h1, h2⟩ := hx; exact ⟨us, h1, kills_ok h xs us h2⟩
  | .fn _ xs, _, hx => by simp only [Ok, kill] at hx ⊢; obtain ⟨us, h1, h2⟩ := hx; exact ⟨us, h1, kills_ok h xs us h2⟩
  | .bad, _, _ => by simp only [kill]; exact ok_bad
theorem kills_ok {m m' : Mem} {k : Nat} (h : m.leBut m' k) : ∀ (xs : List AV) (us : List Value), Oks m xs us → Oks m' (kills k xs) us
  | [], _, hx => by simpa only [Oks, kills] using hx
  | x :: xs, _, hx => by simp only [Oks, kills] at hx ⊢; obtain ⟨u, vs, h1, h2, h3⟩ := hx; exact ⟨u, vs, h1, kill_ok h x u h2, kills_ok h xs vs h3⟩
end

/-- One row has got another block, or its block other cells. -/
theorem Sat.rekey {B : Base} {m m' : Mem} {s : St} {a : Act} {w w' : World} (h : Sat B m s a w) {k : Nat} {ch c0 : Chunk} (hk : look? s.h k = some c0) (hle : m.leBut m' k) (hkeep : ∀ l b, l ≠ .root k → m.b l = some b → w'.heap[b]? = w.heap[b]?)
    (inj : ∀ l l' b, m'.b l = some b → m'.b l' = some b → l = l') (lt : ∀ l b, m'.b l = some b → b < w'.heap.size) (z : ∀ b, m'.z b = bsz w' b)
    (ro : ∀ b o, m.r b = some o → w'.heap[b]? = some o ∧ ∀ l, m'.b l ≠ some b) (own : ∀ l b, m'.b l = some b → B.own0 b ∨ B.w0.heap.size ≤ b) (frm : Frm B.w0 B.own0 w') (hch : ChunkOk m' w' k ch) (hnew : k < s.nk) :
    Sat B m' ⟨killT k s.t, setH (killH k s.h) k ch, s.nk, s.N⟩ a w' := by
  refine ⟨h.defers, h.size, by rw [hle.r]; exact h.r, ⟨inj, lt, z, fun b o hr => ro b o (by rw [← hle.r]; exact hr), fun q hq => ?_, fun k' c hk' => ?_⟩, own, frm, fun d => ?_⟩
  · have hq' : s.nk ≤ q := hq
    obtain ⟨h1, h2⟩ := h.core.new q hq'
    refine ⟨?_, fun i j => ?_⟩
    · rw [hle.b _ (fun he => by cases he; omega)]; exact h1
    · rw [hle.b _ (fun he => by cases he)]; exact h2 i j
  · rw [look_setH, look_killH] at hk'
    split at hk'
    · rename_i he; subst he
      rw [hk] at hk'
      simp only [Option.map_some, Option.some.injEq] at hk'
      subst hk'; exact hch
    · rename_i hne
      rw [look_killH, Option.map_eq_some_iff] at hk'
      obtain ⟨c1, hc1, rfl⟩ := hk'
      have hne' : Lab.root k' ≠ .root k := fun he => by cases he; exact hne rfl
      have hck := h.core.chunk k' c1 hc1
      cases c1 with
      | fact xs us => exact kills_ok hle _ _ hck
      | pin q ob zz =>
        simp only [killC]
        split
        · intro b hb; cases hb
        · rename_i hqk
          have hne2 : Lab.root q ≠ .root k := fun he => by cases he; exact hqk rfl
          exact fun b hb => ⟨by rw [hle.b _ hne2]; exact (hck b hb).1, Nat.le_trans (hck b hb).2 (hle.z _ _ hne2 (hck b hb).1)⟩
      | box e cells =>
        obtain ⟨b, vs, fr, h1, h2, h3, h4⟩ := hck
        exact ⟨b, vs, fr, by rw [hle.b _ hne']; exact h1, by rw [hkeep _ _ hne' h1]; exact h2, h3, kills_ok hle _ _ h4⟩
      | row e E rows =>
        have hsub : ∀ i j, Lab.sub k' i j ≠ .root k := fun _ _ he => by cases he
        rcases hck with ⟨h1, h2⟩ | ⟨b, vs, fr, h1, h2, h3, h4, h5⟩
        · exact .inl ⟨by rw [hle.b _ hne']; exact h1, h2⟩
        · refine .inr ⟨b, vs, fr, by rw [hle.b _ hne']; exact h1, by rw [hkeep _ _ hne' h1]; exact h2, h3, h4, fun i row hi => ⟨(h5 i row hi).1, fun j c hj => ?_⟩⟩
          obtain ⟨y, hy, hc⟩ := (h5 i row hi).2 j c hj
          refine ⟨y, hy, ?_⟩
          cases c with
          | v x => exact hc
          | s e' E' rows' =>
            obtain ⟨hs, hn⟩ := hc
            refine ⟨hs.mono (fun b hb => by rw [hle.b _ (hsub _ _)]; exact hb) (fun b hb => hle.z _ b (hsub _ _) hb), ?_⟩
            rcases hn with ⟨n1, n2⟩ | ⟨b', vs', fr', n1, n2, n3⟩
            · exact .inl ⟨by rw [hle.b _ (hsub _ _)]; exact n1, n2⟩
            · exact .inr ⟨b', vs', fr', by rw [hle.b _ (hsub _ _)]; exact n1, by rw [hkeep _ _ (hsub _ _) n1]; exact n2, n3⟩
  · rw [look_killT]
    exact ⟨fun hc => kill_ok hle _ _ ((h.tmps d).1 hc), (h.tmps d).2⟩

/-! ### append -/
def flatRow : List Cell → Prop
  | [] => True
  | .v z :: r => z.oneCell' = true ∧ flatRow r
  | _ :: _ => False
def flatRows (rows : List (List Cell)) : Prop := ∀ r ∈ rows, flatRow r
theorem flatRow_get : ∀ {r : List Cell} {i : Nat} {c : Cell}, flatRow r → r[i]? = some c → ∃ z, c = .v z ∧ z.oneCell' = true
  | [], i, c, _, h => by simp at h
  | .v z :: r, 0, c, hf, h => by simp only [flatRow] at hf; simp at h; exact ⟨z, h.symm, hf.1⟩
  | .v z :: r, i + 1, c, hf, h => by simp only [flatRow] at hf; exact flatRow_get hf.2 (by simpa using h)
  | .s .. :: r, i, c, hf, h => by simp only [flatRow] at hf
def rowVals (r : List Cell) : List Value := r.map fun c => match c with | .v z => z | _ => undef

def appE (P : Program) (t : TypeId) : Nat := ((slT P t).getD (0, 0)).2
def appT (P : Program) (t : TypeId) : TypeId := ((slT P t).getD (0, 0)).1
/-- What an append leaves: the state (what pointed at the row is forgotten), the value. -/
def appS (P : Program) (t : TypeId) (s : St) (x y : AV) : St × AV :=
  match x with
  | .sl k E _ n => match look? s.h k with
    | some (.row e _ rows) => (⟨killT k s.t, setH (killH k s.h) k (.row e E (rows.take n ++ (rowsAV s.h y).getD [])), s.nk, s.N⟩, .sl k E 0 (n + lenAV y))
    | _ => (s, .bad)
  | _ => (s.newk (.row (appT P t) (appE P t) ((rowsAV s.h y).getD [])), .sl s.nk (appE P t) 0 (lenAV y))
def appP (P : Program) (t t2 : TypeId) (h : Heap) (nk : Nat) (x y : AV) : Prop :=
  (slT P t).isSome = true ∧ t2 = t ∧ 0 < appE P t ∧ (zeroT P (appT P t)).isSome = true ∧ (zcells P (appT P t)).length = appE P t ∧ ((P.info? (appT P t)).map (·.bytes)).getD 1000 ≤ 256 ∧
  (rowsAV h y).isSome = true ∧ lenAV y = ((rowsAV h y).getD []).length ∧ eszAV (appE P t) y ∧ flatRows ((rowsAV h y).getD []) ∧ lenAV x + lenAV y ≤ 549755813888 ∧
  match x with
  | .v (.slice none 0 0) => True
  | .sl k E lo n => lo = 0 ∧ E = appE P t ∧ k < nk ∧ (match look? h k with
    | some (.row e E' rows) => e = appT P t ∧ E' = E ∧ n ≤ rows.length
    | _ => False)
  | _ => False

theorem flat_cells {w : World} {E : Nat} {rows : List (List Cell)} (hf : flatRows rows) (hE : 0 < E) {b o : Nat}
    (h : ∀ (i : Nat) row, rows[i]? = some row → row.length = E ∧ ∀ (j : Nat) c, row[j]? = some c → ∃ y, w.cell? ⟨b, o + i * E + j, none⟩ = some y ∧ (∀ z, c = .v z → y = z)) :
    ((rows.map rowVals).flatten).length = rows.length * E ∧ (∀ (j : Nat) v, ((rows.map rowVals).flatten)[j]? = some v → w.cell? ⟨b, o + j, none⟩ = some v) ∧ (∀ v ∈ (rows.map rowVals).flatten, v.oneCell' = true) ∧
    (∀ (i : Nat) row, rows[i]? = some row → ∀ (j : Nat) c, row[j]? = some c → ∃ z, c = .v z ∧ ((rows.map rowVals).flatten)[i * E + j]? = some z) := by
  induction rows generalizing o with
  | nil => simp
  | cons r rows ih =>
    obtain ⟨hr, hc⟩ := h 0 r rfl
    have hfr : flatRow r := hf r (by simp)
    have hl : (rowVals r).length = E := by simp [rowVals, hr]
    obtain ⟨i1, i2, i3, i4⟩ := ih (o := o + E) (fun q hq => hf q (by simp [hq])) (fun i row hi => by
      obtain ⟨h1, h2⟩ := h (i + 1) row (by simpa using hi)
      refine ⟨h1, fun j c hj => ?_⟩
      obtain ⟨y, hy, hz⟩ := h2 j c hj
      exact ⟨y, by rw [← hy]; congr 2; rw [Nat.add_mul]; omega, hz⟩)
    have get0 : ∀ (j : Nat) c, r[j]? = some c → ∃ z, c = .v z ∧ (rowVals r)[j]? = some z ∧ z.oneCell' = true := by
      intro j c hj
      obtain ⟨z, rfl, hz⟩ := flatRow_get hfr hj
      exact ⟨z, rfl, by simp [rowVals, hj], hz⟩
    simp only [List.map_cons, List.flatten_cons]
    refine ⟨by rw [List.length_append, hl, i1, List.length_cons, Nat.add_mul]; omega, fun j v hj => ?_, fun v hv => ?_, fun i row hi j c hj => ?_⟩
    · by_cases hjE : j < E
      · rw [List.getElem?_append_left (by omega)] at hj
        have hrj : r[j]? = some r[j] := by simp [show j < r.length by omega]
        obtain ⟨z, hz, hz2, _⟩ := get0 j _ hrj
        rw [hz2] at hj; simp at hj; subst hj
        obtain ⟨y, hy, hyz⟩ := hc j _ hrj
        rw [hyz _ hz] at hy
        simpa using hy
      · rw [List.getElem?_append_right (by omega), hl] at hj
        have := i2 (j - E) v hj
        rw [← this]; congr 2; omega
    · rw [List.mem_append] at hv
      rcases hv with hv | hv
      · obtain ⟨j, hj, rfl⟩ := List.getElem_of_mem hv
        have hrj : r[j]? = some r[j] := by simp [show j < r.length by omega]
        obtain ⟨z, hz, hz2, h1⟩ := get0 j _ hrj
        have : (rowVals r)[j]? = some (rowVals r)[j] := by simp [hj]
        rw [this] at hz2; simp at hz2; rw [hz2]; exact h1
      · exact i3 v hv
    · cases i with
      | zero =>
        simp only [List.getElem?_cons_zero, Option.some.injEq] at hi
        subst hi
        obtain ⟨z, hz, hz2, _⟩ := get0 j c hj
        have := (List.getElem?_eq_some_iff.1 hj).1
        exact ⟨z, hz, by rw [Nat.zero_mul, Nat.zero_add, List.getElem?_append_left (by omega)]; exact hz2⟩
      | succ i =>
        obtain ⟨z, hz, hz2⟩ := i4 i row (by simpa using hi) j c hj
        refine ⟨z, hz, ?_⟩
        rw [List.getElem?_append_right (by rw [hl, Nat.add_mul]; omega), hl, ← hz2]; congr 1; rw [Nat.add_mul]; omega


theorem run_append_zero {t ty e : TypeId} {i : TypeInfo} (ht : P.underlying t = some (.slice e)) (hi : P.info? e = some i) (base A : Option Addr) (n cap c : Nat) (hn : n ≤ cap) (w : World) :
    (Builtin.append_ #[t, t] ty #[.slice base n cap, .slice A 0 c]).run P w = .ok (.slice base n cap) w := by
  cases base <;> cases A <;> simp [Builtin.append_, run_underlying ht, sizeOf, typeInfo, hi, Builtin.lenOf, hn, Builtin.firstCells, loadCells, loadCellsFrom, storeCells]

/-- The rows behind an append, in whatever block. -/
theorem app_rows {m' : Mem} {w' : World} {k b n E : Nat} {e : TypeId} {fr : Nat × Nat} {vs' : Array Value} {rows news : List (List Cell)} (hb : m'.b (.root k) = some b) (hw : w'.heap[b]? = some (.cells vs' e fr)) (hfr : Free vs' fr) (hn : n ≤ rows.length)
    (hold : ∀ i row, i < n → rows[i]? = some row → row.length = E ∧ ∀ j c, row[j]? = some c → ∃ y, vs'[i * E + j]? = some y ∧ CellOk m' w' (.sub k i j) c y)
    (hnew : ∀ (i : Nat) row, news[i]? = some row → row.length = E ∧ ∀ (j : Nat) c, row[j]? = some c → ∃ z, c = .v z ∧ vs'[(n + i) * E + j]? = some z)
    (hsz : (n + news.length) * E ≤ vs'.size) : ChunkOk m' w' k (.row e E (rows.take n ++ news)) := by
  have hl : (rows.take n).length = n := by simp; omega
  refine .inr ⟨b, vs', fr, hb, hw, hfr, by rw [List.length_append, hl]; exact hsz, fun i row hi => ?_⟩
  by_cases hin : i < n
  · rw [List.getElem?_append_left (by omega), List.getElem?_take_of_lt hin] at hi
    exact hold i row hin hi
  · rw [List.getElem?_append_right (by omega), hl] at hi
    obtain ⟨h1, h2⟩ := hnew _ row hi
    refine ⟨h1, fun j c hj => ?_⟩
    obtain ⟨z, rfl, hz⟩ := h2 j c hj
    exact ⟨z, by rw [← hz]; congr 3; omega, rfl⟩

theorem app_run {B : Base} {m : Mem} {s : St} {a : Act} {w : World} (h : Sat B m s a w) {t t2 ty : TypeId} {x y : AV} {u v : Value} (hx : Ok m x u) (hy : Ok m y v) (hp : appP P t t2 s.h s.nk x y) :
    ∃ z w' m', (Builtin.append_ #[t, t2] ty #[u, v]).run P w = .ok z w' ∧ Ok m' (appS P t s x y).2 z ∧ Sat B m' (appS P t s x y).1 a w' := by
  obtain ⟨p1, rfl, p3, p4, p5, p6, p7, p8, p9, p10, p11, p12⟩ := hp
  obtain ⟨e, E, i, hT, hu, hi, hsz⟩ := slT_info p1
  have eE : appE P t2 = E := by simp [appE, hT]
  have eT : appT P t2 = e := by simp [appT, hT]
  rw [eE] at p3 p5 p9
  rw [eT] at p4 p5 p6
  cases hr : rowsAV s.h y with
  | none => rw [hr] at p7; simp at p7
  | some news =>
    rw [hr] at p8 p10
    simp only [Option.getD_some] at p8 p10
    cases hz : zeroT P e with
    | none => rw [hz] at p4; simp at p4
    | some z =>
      have hz' : i.zero = some z := by unfold zeroT at hz; rw [hi] at hz; simpa using hz
      have hzE : z.cells.size = E := by rw [← p5]; simp [zcells, hz]
      have hby : i.bytes ≤ 256 := by rw [hi] at p6; simpa using p6
      obtain ⟨A, c, rfl, hread⟩ := rows_read h.core hy hr p9 p8
      have newsOk : ∀ w', RowKit.Below w.heap.size w w' → 0 < news.length → ∃ b o, A = some ⟨b, o, none⟩ ∧ ((news.map rowVals).flatten).length = news.length * E ∧ (∀ (j : Nat) v, ((news.map rowVals).flatten)[j]? = some v → w'.cell? ⟨b, o + j, none⟩ = some v) ∧ (∀ v ∈ (news.map rowVals).flatten, v.oneCell' = true) ∧
          (∀ (i : Nat) row, news[i]? = some row → row.length = E ∧ ∀ (j : Nat) c, row[j]? = some c → ∃ z, c = .v z ∧ ((news.map rowVals).flatten)[i * E + j]? = some z) := by
        intro w' hb hpos
        obtain ⟨b, o, hA, _, _⟩ := hread w' hb 0 news[0] (by simp [hpos])
        have hrow : ∀ (i : Nat) row, news[i]? = some row → row.length = E ∧ ∀ (j : Nat) c, row[j]? = some c → ∃ y, w'.cell? ⟨b, o + i * E + j, none⟩ = some y ∧ (∀ z, c = .v z → y = z) := by
          intro i row hi
          obtain ⟨b', o', hA', hl', hc'⟩ := hread w' hb i row hi
          rw [hA] at hA'; simp at hA'; obtain ⟨rfl, rfl⟩ := hA'
          exact ⟨hl', hc'⟩
        obtain ⟨f1, f2, f3, f4⟩ := flat_cells p10 p3 hrow
        exact ⟨b, o, hA, f1, f2, f3, fun i row hi => ⟨(hrow i row hi).1, f4 i row hi⟩⟩
      cases x <;> try (exact p12.elim)
      case v xv =>
        have hxv : xv = .slice none 0 0 := by
          split at p12
          · rename_i he; simpa using he
          · rename_i he; cases he
          · exact p12.elim
        subst hxv
        rw [ok_v] at hx; subst hx
        have hS : appS P t2 s (.v (.slice none 0 0)) y = (s.newk (.row e E news), .sl s.nk E 0 (lenAV y)) := by simp [appS, eT, eE, hr]
        rw [hS]
        dsimp only
        by_cases hm : news.length = 0
        · have : news = [] := List.eq_nil_of_length_eq_zero hm
          subst this
          have hnn := (h.core.new s.nk (Nat.le_refl _)).1
          refine ⟨_, w, m, run_append_zero hu hi none A 0 0 c (Nat.le_refl _) w, ?_, ?_⟩
          · simp only [Ok]
            refine ⟨none, 0, by rw [p8]; rfl, by rw [p8]; simp, .inr ⟨by rw [p8]; rfl, rfl⟩⟩
          · refine ⟨h.defers, h.size, h.r, ⟨h.core.inj, h.core.lt, h.core.z, h.core.ro, fun k hk => h.core.new k (by simp only [St.newk] at hk; omega), fun k c hk => ?_⟩, h.own, h.frm, h.tmps⟩
            simp only [St.newk, look?] at hk
            split at hk
            · rename_i he; subst he
              simp only [Option.some.injEq] at hk; subst hk
              exact .inl ⟨hnn, rfl⟩
            · exact h.core.chunk k c hk
        · obtain ⟨b, o, rfl, f1, f2, f3, f4⟩ := newsOk w (RowKit.Below.refl _ _) (by omega)
          rw [← p8] at f1
          have p11' : lenAV y ≤ 549755813888 := Nat.le_trans (Nat.le_add_left _ _) p11
          have hrun := run_append_nil (P := P) w t2 ty e i z hu hi hz' ⟨b, o, none⟩ news.length c (news.map rowVals).flatten (by rw [f1, p8, hsz]) (fun j v hj => by rw [add_none]; exact f2 j v hj) (by omega) (by rw [← p8]; omega)
            (by have : news.length * i.bytes ≤ 549755813888 * 256 := Nat.mul_le_mul (by rw [← p8]; omega) hby
                omega)
          have hge := grownCap_ge w news.length 0 e
          generalize grownCap w news.length 0 e = cap at *
          obtain ⟨m', g1, g2, g3, g4⟩ := h.new (NewB.alloc_drew w ((news.map rowVals).flatten.toArray ++ Builtin.zeroCells z.cells (cap - news.length)) e (0, 0)) (ch := .row e E news) (fun m' hle hrt hzz => by
            have := app_rows (vs' := (news.map rowVals).flatten.toArray ++ Builtin.zeroCells z.cells (cap - news.length)) (e := e) (k := s.nk) (n := 0) (rows := []) (news := news) (E := E) hrt (heap_alloc_new w.drew _) (Free.zero _) (Nat.le_refl _) (fun i row hi => by omega) (fun i row hi => by
              obtain ⟨q1, q2⟩ := f4 i row hi
              refine ⟨q1, fun j c hj => ?_⟩
              obtain ⟨zz, hc, hzz⟩ := q2 j c hj
              refine ⟨zz, hc, ?_⟩
              rw [Nat.zero_add]
              have hl := (List.getElem?_eq_some_iff.1 hzz).1
              rw [Array.getElem?_append_left hl]
              rw [List.getElem?_toArray]; exact hzz) (by rw [Array.size_append]; simp only [List.size_toArray]; rw [f1, Nat.zero_add, p8]; omega)
            simpa using this)
          refine ⟨_, _, m', hrun, ?_, g4⟩
          simp only [Ok]
          refine ⟨_, _, by rw [p8], by rw [p8]; exact hge, .inl ⟨_, g2, by simp, ?_⟩⟩
          rw [g3, Array.size_append, size_zeroCells]
          simp only [List.size_toArray]
          rw [f1, p8, hzE, ← Nat.add_mul, Nat.zero_add]
          exact Nat.mul_le_mul_right _ (by omega)
      case sl k E' lo n =>
        obtain ⟨rfl, rfl, hknk, p12⟩ := p12
        rw [eE] at *
        cases hk : look? s.h k with
        | none => rw [hk] at p12; exact p12.elim
        | some ch =>
          rw [hk] at p12
          cases ch with
          | box _ _ => exact p12.elim
          | pin _ _ _ => exact p12.elim
          | fact _ _ => exact p12.elim
          | row e' E' rows =>
            obtain ⟨rfl, rfl, hnr⟩ := p12
            rw [eT] at *
            have hS : appS P t2 s (.sl k E' 0 n) y = (⟨killT k s.t, setH (killH k s.h) k (.row e E' (rows.take n ++ news)), s.nk, s.N⟩, .sl k E' 0 (n + lenAV y)) := by simp [appS, hk, hr]
            rw [hS]
            dsimp only
            change n + lenAV y ≤ _ at p11
            simp only [Ok] at hx
            obtain ⟨A0, cap, rfl, hnc, hx⟩ := hx
            have hch := h.core.chunk k _ hk
            have keepC : ∀ (m' : Mem) (w' : World), m.leBut m' k → (∀ l b, l ≠ .root k → m.b l = some b → w'.heap[b]? = w.heap[b]?) → ∀ (i j : Nat) (c : Cell) (y : Value), CellOk m w (.sub k i j) c y → CellOk m' w' (.sub k i j) c y := by
              intro m' w' hle hkeep i j c y hcy
              have hsub : Lab.sub k i j ≠ .root k := fun he => by cases he
              cases c with
              | v z => exact hcy
              | s e2 E2 rs =>
                refine ⟨hcy.1.mono (fun b hb => by rw [hle.b _ hsub]; exact hb) (fun b hb => hle.z _ b hsub hb), ?_⟩
                rcases hcy.2 with ⟨n1, n2⟩ | ⟨b2, vs2, fr2, n1, n2, n3⟩
                · exact .inl ⟨by rw [hle.b _ hsub]; exact n1, n2⟩
                · exact .inr ⟨b2, vs2, fr2, by rw [hle.b _ hsub]; exact n1, by rw [hkeep _ _ hsub n1]; exact n2, n3⟩
            by_cases hm : news.length = 0
            · have : news = [] := List.eq_nil_of_length_eq_zero hm
              subst this
              have hle : m.leBut m k := ⟨rfl, fun _ _ => rfl, fun _ _ _ _ => Nat.le_refl _⟩
              refine ⟨_, w, m, by rw [show ([] : List (List Cell)).length = 0 from rfl]; exact run_append_zero hu hi A0 A n cap c hnc w, ?_, ?_⟩
              · simp only [Ok]
                rw [p8]
                exact ⟨A0, cap, rfl, by simpa using hnc, by simpa using hx⟩
              · refine h.rekey hk hle (fun _ _ _ _ => rfl) h.core.inj h.core.lt h.core.z h.core.ro h.own h.frm ?_ hknk
                rw [List.append_nil]
                rcases hch with ⟨h1, h2⟩ | ⟨b, vs, fr, h1, h2, h3, h4, h5⟩
                · exact .inl ⟨h1, by rw [h2]; simp⟩
                · refine .inr ⟨b, vs, fr, h1, h2, h3, Nat.le_trans (Nat.mul_le_mul_right _ (by simp; omega)) h4, fun i row hi => ?_⟩
                  have hil : i < n := by have := (List.getElem?_eq_some_iff.1 hi).1; simp at this; omega
                  rw [List.getElem?_take_of_lt hil] at hi
                  exact h5 i row hi
            · have grow : ∀ (olds : List Value), olds.length = n * E' → (∀ i row, i < n → rows[i]? = some row → row.length = E' ∧ ∀ j c, row[j]? = some c → ∃ y, olds[i * E' + j]? = some y ∧ CellOk m w (.sub k i j) c y) →
                  (∃ cap', n + news.length ≤ cap' ∧ (Builtin.append_ #[t2, t2] ty #[.slice A0 n cap, .slice A news.length c]).run P w = .ok (.slice (some ⟨w.heap.size, 0, none⟩) (n + news.length) cap') (w.drew.alloc (.cells (olds.toArray ++ ((news.map rowVals).flatten).toArray ++ Builtin.zeroCells z.cells (cap' - (n + news.length))) e))) →
                  ∃ z w' m', (Builtin.append_ #[t2, t2] ty #[.slice A0 n cap, .slice A news.length c]).run P w = .ok z w' ∧ Ok m' (.sl k E' 0 (n + lenAV y)) z ∧ Sat B m' ⟨killT k s.t, setH (killH k s.h) k (.row e E' (rows.take n ++ news)), s.nk, s.N⟩ a w' := by
                intro olds ho1 ho2 ⟨cap', hcap, hrun⟩
                obtain ⟨b0, o0, hA, f1, f2, f3, f4⟩ := newsOk w (RowKit.Below.refl _ _) (by omega)
                have hnb := NewB.alloc_drew w (olds.toArray ++ ((news.map rowVals).flatten).toArray ++ Builtin.zeroCells z.cells (cap' - (n + news.length))) e (0, 0)
                generalize hvs : olds.toArray ++ ((news.map rowVals).flatten).toArray ++ Builtin.zeroCells z.cells (cap' - (n + news.length)) = vs' at *
                generalize hw' : w.drew.alloc (.cells vs' e) = w' at *
                have hvsz : vs'.size = cap' * E' := by
                  rw [← hvs]; simp only [Array.size_append, List.size_toArray, size_zeroCells, hzE, ho1, f1, ← Nat.add_mul]
                  congr 1; omega
                have hle : m.leBut (m.put k w.heap.size w') k := by
                  refine ⟨rfl, fun l hl => by simp only [Mem.put]; rw [if_neg hl], fun l b hl hb => ?_⟩
                  show m.z b ≤ bsz w' b
                  rw [h.core.z, bsz_below hnb.below (h.core.lt l b hb)]; exact Nat.le_refl _
                have hkeep : ∀ l b, l ≠ .root k → m.b l = some b → w'.heap[b]? = w.heap[b]? := fun l b _ hb => hnb.below.block b (h.core.lt l b hb)
                refine ⟨_, w', m.put k w.heap.size w', hrun, ?_, ?_⟩
                · simp only [Ok]
                  refine ⟨_, cap', by rw [p8], by rw [p8]; exact hcap, .inl ⟨_, Mem.put_root _ _ _ _, by simp, ?_⟩⟩
                  show _ ≤ bsz w' w.heap.size
                  unfold bsz; rw [hnb.at_]; simp only [hvsz, Nat.zero_add]; exact Nat.le_refl _
                · refine h.rekey hk hle hkeep ?_ ?_ (fun _ => rfl) ?_ ?_ (h.frm.below hnb.below) ?_ hknk
                  · intro l l' b hl hl'
                    simp only [Mem.put] at hl hl'
                    split at hl <;> split at hl'
                    · rename_i e1 e2; rw [e1, e2]
                    · simp only [Option.some.injEq] at hl; subst hl
                      have := h.core.lt _ _ hl'; omega
                    · simp only [Option.some.injEq] at hl'; subst hl'
                      have := h.core.lt _ _ hl; omega
                    · exact h.core.inj l l' b hl hl'
                  · intro l b hl
                    simp only [Mem.put] at hl
                    rw [hnb.size]
                    split at hl
                    · simp only [Option.some.injEq] at hl; omega
                    · have := h.core.lt _ _ hl; omega
                  · intro b o hro
                    obtain ⟨h1, h2⟩ := h.core.ro b o hro
                    have hb := (Array.getElem?_eq_some_iff.1 h1).1
                    refine ⟨by rw [hnb.below.block b hb]; exact h1, fun l => ?_⟩
                    simp only [Mem.put]
                    split
                    · intro he; simp only [Option.some.injEq] at he; omega
                    · exact h2 l
                  · intro l b hl
                    simp only [Mem.put] at hl
                    split at hl
                    · simp only [Option.some.injEq] at hl; subst hl; exact .inr h.frm.size
                    · exact h.own l b hl
                  · refine app_rows (Mem.put_root _ _ _ _) hnb.at_ (Free.zero _) hnr (fun i row hi hrow => ?_) (fun i row hi => ?_) (by rw [hvsz]; exact Nat.mul_le_mul_right _ hcap)
                    · obtain ⟨q1, q2⟩ := ho2 i row hi hrow
                      refine ⟨q1, fun j cc hj => ?_⟩
                      obtain ⟨yy, hy1, hy2⟩ := q2 j cc hj
                      refine ⟨yy, ?_, keepC _ _ hle hkeep i j cc yy hy2⟩
                      have hl := (List.getElem?_eq_some_iff.1 hy1).1
                      rw [← hvs, Array.append_assoc, Array.getElem?_append_left (by simpa using hl)]
                      simpa using hy1
                    · obtain ⟨q1, q2⟩ := f4 i row hi
                      refine ⟨q1, fun j cc hj => ?_⟩
                      obtain ⟨zz, hc1, hzz⟩ := q2 j cc hj
                      refine ⟨zz, hc1, ?_⟩
                      have hl := (List.getElem?_eq_some_iff.1 hzz).1
                      rw [← hvs, Array.append_assoc, Array.getElem?_append_right (by simp only [List.size_toArray, ho1, Nat.add_mul]; omega), Array.getElem?_append_left (by simp only [List.size_toArray, ho1, Nat.add_mul]; omega)]
                      simp only [List.size_toArray, ho1, List.getElem?_toArray]
                      rw [← hzz]; congr 1; rw [Nat.add_mul]; omega
              obtain ⟨b0, o0, hA, f1, f2, f3, f4⟩ := newsOk w (RowKit.Below.refl _ _) (by omega)
              subst hA
              have hbound : (n + news.length) * i.bytes ≤ 140737488355328 := by
                have : (n + news.length) * i.bytes ≤ 549755813888 * 256 := Nat.mul_le_mul (by rw [← p8]; omega) hby
                omega
              by_cases hroom : n + news.length ≤ cap
              · rcases hx with ⟨b, hb, rfl, hcz⟩ | ⟨h1, h2⟩
                · rcases hch with ⟨h1, _⟩ | ⟨b', vs, fr, h1, h2, h3, h4, h5⟩
                  · rw [hb] at h1; simp at h1
                  · rw [hb] at h1; simp at h1; subst h1
                    have hzb : m.z b = vs.size := by rw [h.core.z]; unfold bsz; rw [h2]
                    rw [hzb, Nat.zero_add] at hcz
                    have hfit : n * E' + ((news.map rowVals).flatten).length ≤ vs.size := by
                      rw [f1, ← Nat.add_mul]; exact Nat.le_trans (Nat.mul_le_mul_right _ hroom) hcz
                    obtain ⟨w', cs', g1, g2, g3⟩ := run_storeCells (P := P) (o := n * E') ((news.map rowVals).flatten) 0 vs w h2 h3 (by simpa using hfit) f3
                    have hsz' : cs'.size = vs.size := by rw [← Array.length_toList, g3, setL_length]; simp
                    have hrun : (Builtin.append_ #[t2, t2] ty #[.slice (some ⟨b, 0 * E', none⟩) n cap, .slice (some ⟨b0, o0, none⟩) news.length c]).run P w = .ok (.slice (some ⟨b, 0 * E', none⟩) (n + news.length) cap) w' := by
                      have hf := run_firstCells_some (P := P) w i.size news.length ⟨b0, o0, none⟩ news.length c ((news.map rowVals).flatten) (by rw [f1, hsz]) (fun j v hj => by rw [add_none]; exact f2 j v hj)
                      rw [hsz] at hf
                      simp [Builtin.append_, run_underlying hu, sizeOf, typeInfo, hi, Builtin.lenOf, hroom, hf, add_none, hsz, g1]
                    have hle : m.leBut m k := ⟨rfl, fun _ _ => rfl, fun _ _ _ _ => Nat.le_refl _⟩
                    have hkeep : ∀ l b', l ≠ .root k → m.b l = some b' → w'.heap[b']? = w.heap[b']? := fun l b' hl hb' => g2.other b' fun he => by subst he; exact hl (h.core.inj _ _ _ hb' hb)
                    refine ⟨_, w', m, hrun, ?_, ?_⟩
                    · simp only [Ok]
                      refine ⟨_, cap, by rw [p8], by rw [p8]; exact hroom, .inl ⟨b, hb, rfl, ?_⟩⟩
                      rw [hzb, Nat.zero_add]; exact hcz
                    · refine h.rekey hk hle hkeep h.core.inj (fun l b' hl => by rw [g2.size]; exact h.core.lt l b' hl) (fun b' => by rw [h.core.z, g2.bsz h2 hsz']) (fun b' o hro => ?_) h.own ?_ ?_ hknk
                      · obtain ⟨h1, h2'⟩ := h.core.ro b' o hro
                        exact ⟨by rw [g2.other b' (fun he => h2' _ (by rw [he]; exact hb))]; exact h1, h2'⟩
                      · refine ⟨by rw [g2.size]; exact h.frm.size, by rw [g2.os]; exact h.frm.os, by rw [g2.tape]; exact h.frm.tape, by rw [g2.output]; exact h.frm.output, fun c' q1 q2 => ?_⟩
                        have : c' ≠ b := by
                          intro hc'; subst hc'
                          rcases h.own _ c' hb with h3 | h3
                          · exact q2 h3
                          · omega
                        rw [g2.other c' this]; exact h.frm.block c' q1 q2
                      · have cell : ∀ q, cs'[q]? = if n * E' ≤ q ∧ q < n * E' + ((news.map rowVals).flatten).length then ((news.map rowVals).flatten)[q - n * E']? else vs[q]? := by
                          intro q
                          rw [← Array.getElem?_toList, g3, setL_get _ _ _ _ (by simpa using hfit)]
                          simp
                        refine app_rows hb g2.at_ (by simpa [Free, hsz'] using h3) hnr (fun i row hi hrow => ?_) (fun i row hi => ?_) (by rw [hsz']; exact Nat.le_trans (Nat.mul_le_mul_right _ hroom) hcz)
                        · obtain ⟨q1, q2⟩ := h5 i row hrow
                          refine ⟨q1, fun j cc hj => ?_⟩
                          obtain ⟨yy, hy1, hy2⟩ := q2 j cc hj
                          have hjl : j < E' := by rw [← q1]; exact (List.getElem?_eq_some_iff.1 hj).1
                          have : (i + 1) * E' ≤ n * E' := Nat.mul_le_mul_right _ hi
                          rw [Nat.add_mul] at this
                          exact ⟨yy, by rw [cell, if_neg (by omega)]; exact hy1, keepC _ _ hle hkeep i j cc yy hy2⟩
                        · obtain ⟨q1, q2⟩ := f4 i row hi
                          refine ⟨q1, fun j cc hj => ?_⟩
                          obtain ⟨zz, hc1, hzz⟩ := q2 j cc hj
                          refine ⟨zz, hc1, ?_⟩
                          have hl := (List.getElem?_eq_some_iff.1 hzz).1
                          rw [cell, if_pos (by rw [Nat.add_mul]; omega), ← hzz]; congr 1; rw [Nat.add_mul]; omega
                · omega
              · rcases hx with ⟨b, hb, rfl, hcz⟩ | ⟨rfl, rfl⟩
                · rcases hch with ⟨h1, _⟩ | ⟨b', vs, fr, h1, h2, h3, h4, h5⟩
                  · rw [hb] at h1; simp at h1
                  · rw [hb] at h1; simp at h1; subst h1
                    have hle : n * E' ≤ vs.size := Nat.le_trans (Nat.mul_le_mul_right _ hnr) h4
                    have hol : (vs.toList.take (n * E')).length = n * E' := by simp; omega
                    refine grow (vs.toList.take (n * E')) hol (fun i row hi hrow => ?_) ⟨grownCap w (n + news.length) cap e, grownCap_ge _ _ _ _, ?_⟩
                    · obtain ⟨q1, q2⟩ := h5 i row hrow
                      refine ⟨q1, fun j cc hj => ?_⟩
                      obtain ⟨yy, hy1, hy2⟩ := q2 j cc hj
                      have hjl : j < E' := by rw [← q1]; exact (List.getElem?_eq_some_iff.1 hj).1
                      have : (i + 1) * E' ≤ n * E' := Nat.mul_le_mul_right _ hi
                      rw [Nat.add_mul] at this
                      exact ⟨yy, by rw [List.getElem?_take_of_lt (by omega)]; simpa using hy1, hy2⟩
                    · exact run_append_grow (P := P) w t2 ty e i z hu hi hz' ⟨b, 0 * E', none⟩ n cap (vs.toList.take (n * E')) (by rw [hol, hsz]) (fun j v hj => by
                          rw [add_none]
                          have hjl := (List.getElem?_eq_some_iff.1 hj).1
                          rw [hol] at hjl
                          rw [List.getElem?_take_of_lt hjl] at hj
                          simp only [Nat.zero_mul, Nat.zero_add, World.cell?, h2]
                          simpa using hj) ⟨b0, o0, none⟩ news.length c ((news.map rowVals).flatten) (by rw [f1, hsz]) (fun j v hj => by rw [add_none]; exact f2 j v hj) (by omega) (by rw [← p8]; omega) (growslice_fits (by omega) hbound)
                · cases A0 with
                  | none =>
                    refine grow [] (by simp) (fun i row hi => by omega) ⟨grownCap w news.length 0 e, by rw [Nat.zero_add]; exact grownCap_ge _ _ _ _, ?_⟩
                    have := run_append_nil (P := P) w t2 ty e i z hu hi hz' ⟨b0, o0, none⟩ news.length c (news.map rowVals).flatten (by rw [f1, hsz]) (fun j v hj => by rw [add_none]; exact f2 j v hj) (by omega) (by rw [← p8]; omega) (by rw [Nat.zero_add] at hbound; omega)
                    simpa using this
                  | some aa =>
                    refine grow [] (by simp) (fun i row hi => by omega) ⟨grownCap w (0 + news.length) 0 e, grownCap_ge _ _ _ _, ?_⟩
                    exact run_append_grow (P := P) w t2 ty e i z hu hi hz' aa 0 0 [] (by simp) (fun j v hj => by simp at hj) ⟨b0, o0, none⟩ news.length c ((news.map rowVals).flatten) (by rw [f1, hsz]) (fun j v hj => by rw [add_none]; exact f2 j v hj) (by omega) (by rw [← p8]; omega) (growslice_fits (by omega) hbound)

end Go.Eng

/- The engine, part Ja: copy. -/
set_option linter.unusedVariables false
set_option linter.unusedSimpArgs false
namespace Go.Eng
open Go

variable {P : Program}

theorem Sat.same {B : Base} {m : Mem} {s : St} {a : Act} {w : World} (h : Sat B m s a w) {k : Nat} {ch : Chunk} (hk : look? s.h k = some ch) : Sat B m ⟨s.t, setH s.h k ch, s.nk, s.N⟩ a w := by
  refine ⟨h.defers, h.size, h.r, ⟨h.core.inj, h.core.lt, h.core.z, h.core.ro, h.core.new, fun k' c hc => ?_⟩, h.own, h.frm, h.tmps⟩
  rw [look_setH] at hc
  split at hc
  · rename_i he; subst he
    rw [hk] at hc
    simp only [Option.map_some, Option.some.injEq] at hc
    subst hc; exact h.core.chunk _ _ hk
  · exact h.core.chunk _ _ hc

def copyN (h : Heap) (x y : AV) : Nat := min (lenAV x) ((rowsAV h y).getD []).length
def copyC (E lo n : Nat) (ys : List (List Cell)) : Chunk → Chunk
  | .row e E' rows => .row e E' (rows.take lo ++ (ys.take n ++ rows.drop (lo + min n ys.length)))
  | c => c
def copyH (h : Heap) (x y : AV) : Heap :=
  match x with
  | .sl k E lo n => match look? h k with
    | some c => setH h k (copyC E lo n ((rowsAV h y).getD []) c)
    | none => h
  | _ => h
def copyQ (E lo n : Nat) : Chunk → Prop
  | .row e E' rows => E' = E ∧ flatRows rows ∧ lo + n ≤ rows.length
  | _ => False
def copyP (P : Program) (t t2 : TypeId) (h : Heap) (x y : AV) : Prop :=
  (slT P t).isSome = true ∧ t2 = t ∧ 0 < appE P t ∧ (rowsAV h y).isSome = true ∧ lenAV y = ((rowsAV h y).getD []).length ∧ eszAV (appE P t) y ∧ flatRows ((rowsAV h y).getD []) ∧
  match x with
  | .sl k E lo n => E = appE P t ∧ (match look? h k with
    | some c => copyQ E lo n c
    | none => False)
  | _ => False

theorem copy_run {B : Base} {m : Mem} {s : St} {a : Act} {w : World} (h : Sat B m s a w) {t t2 ty : TypeId} {x y : AV} {u v : Value} (hx : Ok m x u) (hy : Ok m y v) (hp : copyP P t t2 s.h x y) :
    ∃ w', (Builtin.copy_ #[t, t2] ty #[u, v]).run P w = .ok (.int .i64 (copyN s.h x y)) w' ∧ Sat B m ⟨s.t, copyH s.h x y, s.nk, s.N⟩ a w' := by
  obtain ⟨p1, rfl, p3, p7, p8, p9, p10, p12⟩ := hp
  obtain ⟨e, E, i, hT, hu, hi, hsz⟩ := slT_info p1
  have eE : appE P t2 = E := by simp [appE, hT]
  rw [eE] at p3 p9 p12
  cases hr : rowsAV s.h y with
  | none => rw [hr] at p7; simp at p7
  | some ys =>
    rw [hr] at p8 p10
    simp only [Option.getD_some] at p8 p10
    obtain ⟨A, c, rfl, hread⟩ := rows_read h.core hy hr p9 p8
    cases x <;> try (exact p12.elim)
    rename_i k E' lo n
    obtain ⟨rfl, p12⟩ := p12
    cases hk : look? s.h k with
    | none => rw [hk] at p12; exact p12.elim
    | some ch =>
      rw [hk] at p12
      have p12 : copyQ E' lo n ch := p12
      cases ch with
      | box _ _ => exact p12.elim
      | pin _ _ _ => exact p12.elim
      | fact _ _ => exact p12.elim
      | row e' E2 rows =>
        obtain ⟨rfl, hfl, hln⟩ := p12
        have hN : copyN s.h (.sl k E2 lo n) y = min n ys.length := by simp [copyN, lenAV, hr]
        have hH : copyH s.h (.sl k E2 lo n) y = setH s.h k (.row e' E2 (rows.take lo ++ (ys.take n ++ rows.drop (lo + min n ys.length)))) := by simp only [copyH, hk, hr, Option.getD_some, copyC]
        rw [hN, hH]
        simp only [Ok] at hx
        obtain ⟨A0, cap, rfl, hnc, hx⟩ := hx
        by_cases hc : min n ys.length = 0
        · refine ⟨w, ?_, ?_⟩
          · have e2 : Nat.min ys.length n = 0 := (Nat.min_comm _ _).trans hc
            rw [hc]
            cases A0 <;> cases A <;> simp [Builtin.copy_, run_underlying hu, Builtin.lenOf, Builtin.firstCells, sizeOf, typeInfo, hi, storeCells, e2, loadCells, loadCellsFrom, goInt]
          · rw [hc, Nat.add_zero]
            have : ys.take n = [] := by
              rw [List.take_eq_nil_iff]
              rcases Nat.eq_zero_or_pos n with h0 | h0
              · exact .inl h0
              · exact .inr (List.eq_nil_of_length_eq_zero (by omega))
            rw [this, List.nil_append, List.take_append_drop]
            exact h.same hk
        · have hn0 : 0 < n := by omega
          obtain ⟨b, hb, rfl, hzb⟩ : ∃ b, m.b (.root k) = some b ∧ A0 = some ⟨b, lo * E2, none⟩ ∧ (lo + cap) * E2 ≤ m.z b := by
            rcases hx with hx | ⟨h1, _⟩
            · exact hx
            · omega
          rcases h.core.chunk k _ hk with ⟨h1, _⟩ | ⟨b', vs, fr, h1, h2, h3, h4, h5⟩
          · rw [hb] at h1; simp at h1
          rw [hb] at h1; simp at h1; subst h1
          have hyl : (ys.take n).length = min n ys.length := by simp
          obtain ⟨b2, o2, rfl, _, _⟩ := hread w (RowKit.Below.refl _ _) 0 ys[0] (by simp [show 0 < ys.length by omega])
          have hrow : ∀ (i : Nat) row, (ys.take n)[i]? = some row → row.length = E2 ∧ ∀ (j : Nat) c, row[j]? = some c → ∃ y, w.cell? ⟨b2, o2 + i * E2 + j, none⟩ = some y ∧ (∀ z, c = .v z → y = z) := by
            intro i row hi
            have hin : i < n := by have := (List.getElem?_eq_some_iff.1 hi).1; simp at this; omega
            rw [List.getElem?_take_of_lt hin] at hi
            obtain ⟨b', o', hA', hl', hc'⟩ := hread w (RowKit.Below.refl _ _) i row hi
            simp at hA'; obtain ⟨rfl, rfl⟩ := hA'
            exact ⟨hl', hc'⟩
          obtain ⟨f1, f2, f3, f4⟩ := flat_cells (w := w) (fun q hq => p10 q (List.mem_of_mem_take hq)) p3 hrow
          rw [hyl] at f1
          generalize hcs : ((ys.take n).map rowVals).flatten = cs at *
          have hload := run_loadCells_list (P := P) w ⟨b2, o2, none⟩ cs (fun j v hj => by rw [add_none]; exact f2 j v hj)
          have hle : (lo + min n ys.length) * E2 ≤ rows.length * E2 := Nat.mul_le_mul_right _ (by omega)
          rw [Nat.add_mul] at hle
          obtain ⟨w', cs', g1, g2, g3⟩ := run_storeCells (P := P) (o := lo * E2) cs 0 vs w h2 h3 (by rw [f1]; omega) f3
          refine ⟨w', ?_, ?_⟩
          · have e1 : Nat.min ys.length n * i.size = cs.length := by rw [f1, hsz]; congr 1; exact Nat.min_comm _ _
            have e2 : Nat.min ys.length n = min n ys.length := Nat.min_comm _ _
            simp [Builtin.copy_, run_underlying hu, Builtin.lenOf, Builtin.firstCells, sizeOf, typeInfo, hi, e1, hload, g1, goInt]
            try exact congrArg (fun q : Nat => (q : Int)) e2
          · have hsz' : cs'.size = vs.size := by rw [← Array.length_toList, g3, setL_length]; simp
            have cell : ∀ q, cs'[q]? = if lo * E2 ≤ q ∧ q < lo * E2 + min n ys.length * E2 then cs[q - lo * E2]? else vs[q]? := by
              intro q
              rw [← Array.getElem?_toList, g3, Nat.add_zero, setL_get _ _ _ _ (by simp only [Array.length_toList]; rw [f1]; omega), f1]
              simp
            have hlt : (rows.take lo).length = lo := by simp; omega
            refine h.write (.inl rfl) hb g2 h2 hsz' (.inr ⟨b, cs', fr, hb, g2.at_, by simpa [Free, hsz'] using h3, ?_, fun i row hi => ?_⟩)
            · rw [hsz']; refine Nat.le_trans (Nat.mul_le_mul_right _ ?_) h4
              simp only [List.length_append, hlt, hyl, List.length_drop]; omega
            by_cases hil : i < lo
            · rw [List.getElem?_append_left (by omega), List.getElem?_take_of_lt hil] at hi
              obtain ⟨r1, r2⟩ := h5 i row hi
              refine ⟨r1, fun j c hj => ?_⟩
              obtain ⟨y, hy, hco⟩ := r2 j c hj
              obtain ⟨z, rfl, _⟩ := flatRow_get (hfl row (List.mem_of_getElem? hi)) hj
              have hj2 : j < E2 := by rw [← r1]; exact (List.getElem?_eq_some_iff.1 hj).1
              refine ⟨y, ?_, hco⟩
              have : (i + 1) * E2 ≤ lo * E2 := Nat.mul_le_mul_right _ hil
              rw [Nat.add_mul] at this
              rw [cell, if_neg (by omega)]; exact hy
            rw [List.getElem?_append_right (by omega), hlt] at hi
            by_cases hi2 : i - lo < min n ys.length
            · rw [List.getElem?_append_left (by omega)] at hi
              obtain ⟨r1, _⟩ := hrow _ row hi
              refine ⟨r1, fun j c hj => ?_⟩
              obtain ⟨z, rfl, hz⟩ := f4 _ row hi j c hj
              have hj2 : j < E2 := by rw [← r1]; exact (List.getElem?_eq_some_iff.1 hj).1
              refine ⟨z, ?_, rfl⟩
              have q1 : (i - lo) * E2 = i * E2 - lo * E2 := Nat.sub_mul _ _ _
              have q2 : lo * E2 ≤ i * E2 := Nat.mul_le_mul_right _ (by omega)
              have q3 : (i - lo + 1) * E2 ≤ min n ys.length * E2 := Nat.mul_le_mul_right _ hi2
              rw [Nat.add_mul] at q3
              rw [cell, if_pos (by omega), ← hz]; congr 1; omega
            · rw [List.getElem?_append_right (by omega), hyl, List.getElem?_drop] at hi
              rw [show lo + min n ys.length + (i - lo - min n ys.length) = i by omega] at hi
              obtain ⟨r1, r2⟩ := h5 i row hi
              refine ⟨r1, fun j c hj => ?_⟩
              obtain ⟨y, hy, hco⟩ := r2 j c hj
              obtain ⟨z, rfl, _⟩ := flatRow_get (hfl row (List.mem_of_getElem? hi)) hj
              refine ⟨y, ?_, hco⟩
              have : (lo + min n ys.length) * E2 ≤ i * E2 := Nat.mul_le_mul_right _ (by omega)
              rw [Nat.add_mul] at this
              rw [cell, if_neg (by omega)]; exact hy

end Go.Eng

/- The engine, part K: the walk as a proposition, and that it is sound. -/
set_option linter.unusedVariables false
set_option linter.unusedSimpArgs false
namespace Go.Eng
open Go

/-- Is a struct that holds own slices to be stored into a row? That is not walked by V. -/
def nestS (h : Heap) : AV → AV → Bool
  | .ptr k _ _ _, x => (match look? h k with | some (.row ..) => !((boxCells x).all isV) | _ => false)
  | _, _ => false
/-- Is a struct that holds own slices to be appended? -/
def nestA (h : Heap) : AV → Bool
  | .sl k _ _ _ => (match look? h k with | some (.box ..) => true | _ => false)
  | _ => false
def memOp (P : Program) (s : St) (op : Op) : Option (Prop × St × AV) :=
  match newOp P s op with
  | some (safe, ch, av) => some (safe, s.newk ch, av)
  | none => match op with
    | .store t p x => if nestS s.h (s.ev p).2 (s.ev x).2 = true then none else some (((s.ev p).1 = true ∧ (s.ev x).1 = true) ∧ storeP P s.h t (s.ev p).2 (s.ev x).2, ⟨s.t, storeH s.h (s.ev p).2 (s.ev x).2, s.nk, s.N⟩, .bad)
    | .call ⟨.builtin .append, ⟨[x, y]⟩, ⟨[t, t2]⟩⟩ => if nestA s.h (s.ev y).2 = true then none else some (((s.ev x).1 = true ∧ (s.ev y).1 = true) ∧ appP P t t2 s.h s.nk (s.ev x).2 (s.ev y).2, (appS P t s (s.ev x).2 (s.ev y).2).1, (appS P t s (s.ev x).2 (s.ev y).2).2)
    | .call ⟨.builtin .copy, ⟨[x, y]⟩, ⟨[t, t2]⟩⟩ => some (((s.ev x).1 = true ∧ (s.ev y).1 = true) ∧ copyP P t t2 s.h (s.ev x).2 (s.ev y).2, ⟨s.t, copyH s.h (s.ev x).2 (s.ev y).2, s.nk, s.N⟩, .v (.int .i64 (copyN s.h (s.ev x).2 (s.ev y).2)))
    | _ => none

/-- Does the operation make something new (or else change the world)? Regions that draw their order and hold such a one are not walked by V. -/
def refT (P : Program) (t : TypeId) : Bool :=
  match P.underlying t with
  | some (.slice _) => true
  | some (.struct fs) => fs.toList.any fun f => (slT P f.type).isSome
  | _ => false
def hasNew (P : Program) (ty : TypeId) : Op → Bool
  | .buildSlice .. => true
  | .makeSlice .. => true
  | .alloc .. => true
  | .box .. => true
  | .store .. => true
  | .call ⟨.builtin .append, _, _⟩ => true
  | .call ⟨.builtin .copy, _, _⟩ => true
  | .call ⟨.value _, _, _⟩ => refT P ty
  | _ => false
def hasNews (P : Program) : List Oper → Bool
  | [] => false
  | o :: r => hasNew P o.type o.op || hasNews P r

/-- What is still to be walked. -/
inductive Fr : Type 1 where
  | code (c : Code)
  | ops (q : Bool) (all l : List Oper)
  | endb (id : Nat)
  | back {ι : Type} (head : ι → St) (μ : ι → Nat) (m : Nat)

def popTo (id : Nat) : List Fr → Option (List Fr)
  | [] => none
  | .endb i :: S => if i = id then some S else popTo id S
  | _ :: S => popTo id S

section
variable (P : Program) (B : Base) (Q : Exit → Act → World → Prop)

def den : List Fr → Exit → Act → World → Prop
  | [], e, a, w => Q e a w
  | .code c :: S, e, a, w => Exit.then (c.wp P (den S)) (den S) e a w
  | .endb id :: S, e, a, w => Exit.inBlock id (den S) e a w
  | .ops _ all l :: S, e, a, w => Exit.then (wpList P all.toArray (den S) l) (den S) e a w
  | .back head μ m :: S, e, a, w => Exit.then (fun a w => ∃ i mm, μ i < m ∧ Sat B mm (head i) a w) (den S) e a w
end

/-- What the walk of the rest must come to. -/
def GoodB (P : Program) (B : Base) (Q : Exit → Act → World → Prop) (S : List Fr) (s : St) : Prop :=
  match S with
  | .ops true all l :: S' => ∀ m a w, Sat B m s a w → wpQuiet P all.toArray (fun w' => RowKit.Below w.heap.size w w') (fun a' => ∀ w', RowKit.Below w.heap.size w w' → den P B Q S' .normal a' w') l a
  | S => ∀ m a w, Sat B m s a w → den P B Q S .normal a w
def Good (P : Program) (K : St → Prop) (S : List Fr) (s : St) : Prop :=
  ∀ B Q, (∀ m s a w, Sat B m s a w → K s → Q .ret a w ∧ Q .normal a w) → GoodB P B Q S s

def csz : Code → Nat
  | .seq a b => csz a + csz b + 2
  | .cond _ a b => csz a + csz b + 2
  | .block _ c => csz c + 3
  | .region _ ops _ => ops.toList.length + 3
  | _ => 1
def fsz : Fr → Nat
  | .code c => csz c
  | .ops _ _ l => l.length + 1
  | .endb _ => 1
  | .back .. => 1
def ssz : List Fr → Nat
  | [] => 0
  | f :: S => fsz f + ssz S
theorem csz_pos (c : Code) : 0 < csz c := by cases c <;> simp [csz]
theorem ssz_pop {id : Nat} : ∀ {S S' : List Fr}, popTo id S = some S' → ssz S' ≤ ssz S
  | [], _, h => by simp [popTo] at h
  | f :: S, S', h => by
    cases f with
    | endb i =>
      simp only [popTo] at h
      split at h
      · simp only [Option.some.injEq] at h; subst h; simp [ssz]
      · have := ssz_pop h; simp [ssz]; omega
    | code c => simp only [popTo] at h; have := ssz_pop h; simp [ssz]; omega
    | ops q all l => simp only [popTo] at h; have := ssz_pop h; simp [ssz]; omega
    | back hd μ m => simp only [popTo] at h; have := ssz_pop h; simp [ssz]; omega

def St.putO (s : St) (d : Option Tmp) (c : Bool) (x : AV) : St := match d with | some d => s.put d c x | none => s
def dstN (s : St) : Option Tmp → Prop | some d => d < s.N | none => True

/-- The walk, up to the next loop, call or test. -/
def V (P : Program) (K : St → Prop) (S : List Fr) (s : St) : Prop :=
  match S with
  | [] => K s
  | .endb _ :: S => V P K S s
  | .code (.seq a b) :: S => V P K (.code a :: .code b :: S) s
  | .code .skip :: S => V P K S s
  | .code .ret :: _ => K s
  | .code (.cond c a b) :: S => (s.ev c).1 = true ∧ (s.ev c).2.boolP ∧ ((s.ev c).2.boolV = true → V P K (.code a :: S) s) ∧ ((s.ev c).2.boolV = false → V P K (.code b :: S) s)
  | .code (.block id c) :: S => V P K (.code c :: .endb id :: S) s
  | .code (.exit id) :: S => match h : popTo id S with
    | some S' => V P K S' s
    | none => False
  | .code (.region _ ops false) :: S => V P K (.ops false ops.toList ops.toList :: S) s
  | .code (.region id ops true) :: S => if hasNews P ops.toList = true then Good P K (.code (.region id ops true) :: S) s else Region.lexB .any ops = true ∧ V P K (.ops true ops.toList ops.toList :: S) s
  | .ops _ _ [] :: S => V P K S s
  | .ops q all (o :: r) :: S => match pureOp P s o.op with
    | some (safe, av) => s.gOk all o.guard ∧ dstN s o.dst ∧ (s.G all o.guard = true → safe) ∧ V P K (.ops q all r :: S) (s.putO o.dst (s.G all o.guard) av)
    | none => if q = true then Good P K (.ops q all (o :: r) :: S) s else match memOp P s o.op with
      | some (safe, s', av) => s.gOk all o.guard ∧ dstN s o.dst ∧ (s.G all o.guard = true → safe ∧ V P K (.ops q all r :: S) (s'.putO o.dst true av)) ∧ (s.G all o.guard = false → V P K (.ops q all r :: S) (s.putO o.dst false .bad))
      | none => Good P K (.ops q all (o :: r) :: S) s
  | S => Good P K S s
termination_by ssz S
decreasing_by
  all_goals simp only [ssz, fsz, csz, List.length_cons, Array.length_toList] at *
  all_goals (try have := csz_pos c)
  all_goals (try have := csz_pos a)
  all_goals (try have := csz_pos b)
  all_goals first | omega | (have := ssz_pop h; omega)

end Go.Eng
