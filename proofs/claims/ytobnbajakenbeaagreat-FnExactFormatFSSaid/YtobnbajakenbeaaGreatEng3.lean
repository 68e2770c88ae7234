/- A walk over the code of a program, as a proposition whose rules are equations, and that it is sound. No condition. -/
import Derived.ChangeSame
import Derived.Deep.Fields
import Derived.Deep.Slices
import Derived.OpenShut
import Derived.ReadAgain
import Derived.RowKit
import Derived.Test.YtobnbajakenbeaaGreatEng2
set_option linter.all false
set_option linter.defProp false
/- The engine, part U: functions that write into what they are handed. -/
set_option linter.unusedVariables false
set_option linter.unusedSimpArgs false
set_option linter.unusedSectionVars false
namespace Go.Eng
open Go

variable {P : Program} {K : St → Prop}

/-- What turned stands for: the keys 0 .. n-1 are the rows that the callee may write. -/
structure Turns (P : Program) (f : FuncId) (xs : List AV) (n : Nat) (h0 : Heap) (v : Value) (h1 : Heap) : Prop where
  enter : Enters P f
  calls : ∀ (m : Mem) (w : World) (us : List Value), Core m w h0 n → Oks m xs us → Calls P f us.toArray w (fun e w' =>
    e = .returned v ∧ Frm w (fun b => ∃ l, m.b l = some b) w' ∧ ∃ m', Core m' w' h1 n ∧ m'.r = m.r ∧ (∀ l b, m'.b l = some b → (∃ l', m.b l' = some b) ∨ w.heap.size ≤ b) ∧
      (∀ k b, k < n → m.b (.root k) = some b → m'.b (.root k) = some b ∧ m.z b ≤ m'.z b))

/-- The facts that pin the keys i .. : written at the keys p .. -/
def pinL (o : Nat → Option Nat) (z : Nat → Nat) (p i : Nat) : Nat → Heap
  | 0 => []
  | c + 1 => (p, .pin i (o i) (z i)) :: pinL o z (p + 1) (i + 1) c
def pinP (h : Heap) (o : Nat → Option Nat) (z : Nat → Nat) (p i : Nat) : Nat → Prop
  | 0 => True
  | c + 1 => look? h p = some (.pin i (o i) (z i)) ∧ pinP h o z (p + 1) (i + 1) c
theorem pinL_zero (o z p i) : pinL o z p i 0 = [] := rfl
theorem pinL_succ (o z p i c) : pinL o z p i (c + 1) = (p, .pin i (o i) (z i)) :: pinL o z (p + 1) (i + 1) c := rfl
theorem pinP_zero (h o z p i) : pinP h o z p i 0 = True := rfl
theorem pinP_succ (h o z p i c) : pinP h o z p i (c + 1) = (look? h p = some (.pin i (o i) (z i)) ∧ pinP h o z (p + 1) (i + 1) c) := rfl
theorem pinL_look {o : Nat → Option Nat} {z : Nat → Nat} : ∀ {c p i k : Nat} {ch : Chunk}, look? (pinL o z p i c) k = some ch → ∃ j, j < c ∧ k = p + j ∧ ch = .pin (i + j) (o (i + j)) (z (i + j))
  | 0, _, _, _, _, h => by simp [pinL, look?] at h
  | c + 1, p, i, k, ch, h => by
    simp only [pinL, look?] at h
    split at h
    · rename_i he; subst he
      simp only [Option.some.injEq] at h; subst h
      exact ⟨0, by omega, rfl, rfl⟩
    · obtain ⟨j, h1, h2, h3⟩ := pinL_look h
      exact ⟨j + 1, by omega, by omega, by rw [h3, show i + 1 + j = i + (j + 1) by omega]⟩
theorem pinP_get {h : Heap} {o : Nat → Option Nat} {z : Nat → Nat} : ∀ {c p i j : Nat}, pinP h o z p i c → j < c → look? h (p + j) = some (.pin (i + j) (o (i + j)) (z (i + j)))
  | 0, _, _, _, _, h => by omega
  | c + 1, p, i, 0, hp, _ => hp.1
  | c + 1, p, i, j + 1, hp, hj => by
    have := pinP_get (j := j) hp.2 (by omega)
    rw [show p + 1 + j = p + (j + 1) by omega, show i + 1 + j = i + (j + 1) by omega] at this
    exact this
theorem look_append {h h' : Heap} {k : Nat} : look? (h ++ h') k = (match look? h k with | some c => some c | none => look? h' k) := by
  induction h with
  | nil => rfl
  | cons p r ih =>
    obtain ⟨k', c⟩ := p
    simp only [List.cons_append, look?]
    split
    · rfl
    · exact ih

theorem Sat.cut {B : Base} {m : Mem} {s : St} {a : Act} {w : World} (hs : Sat B m s a w) (n : Nat) (hp : Heap) (hw : wkH s.h n hp) : Sat B (m.cut n) ⟨[], hp, n, s.N⟩ a w := by
  refine ⟨hs.defers, hs.size, hs.r, ⟨?_, ?_, hs.core.z, fun b o hr => ⟨(hs.core.ro b o hr).1, fun l hl => ?_⟩, ?_, fun k c hk => ?_⟩, ?_, hs.frm, fun d => ⟨fun _ => ok_bad, fun hc => by simp [look] at hc⟩⟩
  · intro l l' b h1 h2
    simp only [Mem.cut] at h1 h2
    split at h1 <;> split at h2
    · exact hs.core.inj l l' b h1 h2
    · cases h2
    · cases h1
    · cases h1
  · intro l b h1
    simp only [Mem.cut] at h1
    split at h1
    · exact hs.core.lt l b h1
    · simp at h1
  · simp only [Mem.cut] at hl
    split at hl
    · exact (hs.core.ro b o hr).2 l hl
    · simp at hl
  · intro k hk
    have : ¬ k < n := by have : n ≤ k := hk; omega
    simp [Mem.cut, Lab.key, this]
  · obtain ⟨g1, g2, g3⟩ := wkH_look hw hk
    exact cut_chunk g1 g2 (hs.core.chunk k c g3)
  · intro l b h1
    simp only [Mem.cut] at h1
    split at h1
    · exact hs.own l b h1
    · simp at h1

theorem sat_startT {m : Mem} {w : World} {h0 : Heap} {n : Nat} {xs : List AV} {us : List Value} {N : Nat} (hc : Core m w h0 n) (hk : keysLt n h0) (hx : Oks m xs us) (hN : xs.length ≤ N) {o : Nat → Option Nat} {z : Nat → Nat}
    (ho : ∀ i b, i < n → o i = some b → m.b (.root i) = some b ∧ z i ≤ m.z b) :
    Sat ⟨w, fun b => ∃ l, m.b l = some b, m.r⟩ m ⟨argT 0 xs, h0 ++ pinL o z n 0 n, n + n, N⟩ { tmps := us.toArray ++ Array.replicate (N - us.toArray.size) undef, defers := [] } w := by
  have hl := hx.length
  refine ⟨rfl, by simp [hl]; omega, rfl, ⟨hc.inj, hc.lt, hc.z, hc.ro, fun k hk => hc.new k (by have : n + n ≤ k := hk; omega), fun k c hkc => ?_⟩, fun l b hl => .inl ⟨l, hl⟩, Frm.refl _ _, fun d => ⟨fun _ => ?_, fun hc => ?_⟩⟩
  · have hkc : look? (h0 ++ pinL o z n 0 n) k = some c := hkc
    rw [look_append] at hkc
    cases h : look? h0 k with
    | some c' => rw [h] at hkc; simp only [Option.some.injEq] at hkc; subst hkc; exact hc.chunk k _ h
    | none =>
      rw [h] at hkc
      obtain ⟨j, h1, rfl, rfl⟩ := pinL_look hkc
      exact fun b hb => ho (0 + j) b (by omega) hb
  · show Ok _ (look (true, .bad) (argT 0 xs) d).2 _
    rw [argT_look]
    simp only [Nat.zero_le, if_true, Nat.sub_zero]
    by_cases hd : d < xs.length
    · obtain ⟨u, hu, hok⟩ := hx.get (show xs[d]? = some (xs.getD d .bad) by simp [List.getD_eq_getElem?_getD, hd])
      have : (us.toArray ++ Array.replicate (N - us.toArray.size) undef).getD d undef = u := by
        have hd' : d < us.length := by omega
        have : us[d]? = some us[d] := by simp [hd']
        rw [hu] at this; simp only [Option.some.injEq] at this
        simp [Array.getD_eq_getD_getElem?, Array.getElem?_append, hd', this]
      show Ok _ _ (Array.getD _ d undef)
      rw [this]; exact hok
    · have : xs.getD d .bad = .bad := by simp [List.getD_eq_getElem?_getD, Nat.le_of_not_lt hd]
      rw [this]; exact ok_bad
  · have : (look (true, .bad) (argT 0 xs) d).1 = false := hc
    rw [argT_look] at this; simp at this

theorem turns_of_V (hm : P.follows .mixedOrders = true) {f : FuncId} {fn : Func} {c : Code} {xs : List AV} {n : Nat} {h0 h1 : Heap} {v : Value} (he : Enters P f) (hf : P.funcs[f]? = some fn) (hb : fn.body = some c) (hN : xs.length ≤ fn.ntmps) (hk : keysLt n h0)
    (h : ∀ (o : Nat → Option Nat) (z : Nat → Nat), V P (fun s => resP P s fn.results.toList ∧ resAV P s fn.results.toList = .v v ∧ wkH s.h n h1 ∧ pinP s.h o z n 0 n) [.code c] ⟨argT 0 xs, h0 ++ pinL o z n 0 n, n + n, fn.ntmps⟩) : Turns P f xs n h0 v h1 := by
  refine ⟨he, fun m w us hc hx => ?_⟩
  refine calls_of_wp hf hb ?_
  have hs := sat_startT (N := fn.ntmps) (o := fun i => m.b (.root i)) (z := fun i => match m.b (.root i) with | some b => m.z b | none => 0) hc hk hx hN (fun i b _ hb => ⟨hb, by simp only [hb]; exact Nat.le_refl _⟩)
  have hg := V_good hm (S := [.code c]) (by simp only [wfT, wfS]) (h (fun i => m.b (.root i)) (fun i => match m.b (.root i) with | some b => m.z b | none => 0))
  have := hg.use (B := ⟨w, fun b => ∃ l, m.b l = some b, m.r⟩) (Q := bodyPost P fn (fun e w' => e = .returned v ∧ Frm w (fun b => ∃ l, m.b l = some b) w' ∧ ∃ m', Core m' w' h1 n ∧ m'.r = m.r ∧ (∀ l b, m'.b l = some b → (∃ l', m.b l' = some b) ∨ w.heap.size ≤ b) ∧
      (∀ k b, k < n → m.b (.root k) = some b → m'.b (.root k) = some b ∧ m.z b ≤ m'.z b))) (fun m2 s a w' hs hk => by
    obtain ⟨u, g1, g2⟩ := results_run (P := P) hs hk.1
    obtain ⟨k1, k2, k3, k4⟩ := hk
    rw [k2, ok_v] at g1; subst g1
    have hs' := hs.cut n h1 k3
    have hall : Ending.returned u = .returned u ∧ Frm w (fun b => ∃ l, m.b l = some b) w' ∧ ∃ m', Core m' w' h1 n ∧ m'.r = m.r ∧ (∀ l b, m'.b l = some b → (∃ l', m.b l' = some b) ∨ w.heap.size ≤ b) ∧
        (∀ k b, k < n → m.b (.root k) = some b → m'.b (.root k) = some b ∧ m.z b ≤ m'.z b) := by
      refine ⟨rfl, hs.frm, m2.cut n, hs'.core, hs'.r, fun l b hl => hs'.own l b hl, fun k b hkn hb => ?_⟩
      have hp := hs.core.chunk _ _ (pinP_get k4 hkn)
      simp only [Nat.zero_add] at hp
      obtain ⟨q1, q2⟩ := hp b hb
      refine ⟨by simp only [Mem.cut, Lab.key, hkn, if_true]; exact q1, ?_⟩
      simp only [hb] at q2
      exact q2
    exact ⟨⟨hs.defers, _, g2, hall⟩, ⟨hs.defers, _, g2, hall⟩⟩) (by simp) hs
  simp only [den, Exit.then] at this
  refine Code.wp_mono (fun e a w hq => ?_) this
  cases e <;> exact hq

/-! ### The caller's side -/
mutual
/-- Nothing in it points into a nested slice of the keys ks. -/
def AV.ns (ks : List Nat) : AV → Prop
  | .sub k _ _ _ _ _ => k ∉ ks
  | .subp k _ _ _ _ _ => k ∉ ks
  | .agg xs => nsL ks xs
  | .tup xs => nsL ks xs
  | .fn _ xs => nsL ks xs
  | .rq xs _ => nsL ks xs
  | .sl _ _ _ _ => True
  | .ptr _ _ _ _ => True
  | .v _ => True
  | .rd _ _ => True
  | .rp _ _ => True
  | .bad => True
def nsL (ks : List Nat) : List AV → Prop
  | [] => True
  | x :: xs => AV.ns ks x ∧ nsL ks xs
end
def nsC (ks : List Nat) : Chunk → Prop
  | .box _ cells => nsL ks cells
  | .fact xs _ => nsL ks xs
  | .row .. => True
  | .pin .. => True
def nsH (ks : List Nat) : Heap → Prop
  | [] => True
  | (_, c) :: r => nsC ks c ∧ nsH ks r
def nsT (ks : List Nat) : List (Nat × Bool × AV) → Prop
  | [] => True
  | (_, _, x) :: r => AV.ns ks x ∧ nsT ks r
theorem nsH_look {ks : List Nat} : ∀ {h : Heap} {k : Nat} {c : Chunk}, nsH ks h → look? h k = some c → nsC ks c
  | [], _, _, _, h => by simp [look?] at h
  | (k', c') :: h, k, c, hl, hk => by
    simp only [nsH] at hl
    simp only [look?] at hk
    split at hk
    · simp only [Option.some.injEq] at hk; subst hk; exact hl.1
    · exact nsH_look hl.2 hk
theorem nsT_look {ks : List Nat} : ∀ {t : List (Nat × Bool × AV)}, nsT ks t → ∀ d, AV.ns ks (look (true, .bad) t d).2
  | [], _, d => by simp only [look, AV.ns]
  | (d', c, x) :: r, h, d => by
    simp only [nsT] at h
    simp only [look]
    split
    · exact h.1
    · exact nsT_look h.2 d

structure Mem.leT (m m' : Mem) (ks : List Nat) : Prop where
  r : m'.r = m.r
  b : ∀ l b, m.b l = some b → (∀ k i j, l = .sub k i j → k ∉ ks) → m'.b l = some b ∧ m.z b ≤ m'.z b
mutual
theorem ns_ok {m m' : Mem} {ks : List Nat} (h : m.leT m' ks) : ∀ (x : AV) (u : Value), AV.ns ks x → Ok m x u → Ok m' x u
  | .v _, _, _, hx => by simpa only [Ok] using hx
  | .rd .., _, _, hx => by simp only [Ok] at hx ⊢; rw [h.r]; exact hx
  | .rp .., _, _, hx => by simp only [Ok] at hx ⊢; rw [h.r]; exact hx
  | .rq xs _, _, hn, hx => by simp only [AV.ns] at hn; simp only [Ok] at hx ⊢; obtain ⟨b, o, us, h1, h2, h3⟩ := hx; exact ⟨b, o, us, h1, by rw [h.r]; exact h2, nsL_ok h xs us hn h3⟩
  | .sl k .., _, _, hx => by simp only [Ok] at hx ⊢; exact hx.mono (fun b hb => (h.b _ _ hb (fun _ _ _ he => by cases he)).1) (fun b hb => (h.b _ _ hb (fun _ _ _ he => by cases he)).2)
  | .ptr .., _, _, hx => by simp only [Ok] at hx ⊢; obtain ⟨b, h1, h2⟩ := hx; exact ⟨b, (h.b _ _ h1 (fun _ _ _ he => by cases he)).1, h2⟩
  | .sub k i j .., _, hn, hx => by
    simp only [AV.ns] at hn
    simp only [Ok] at hx ⊢; exact hx.mono (fun b hb => (h.b _ _ hb (fun _ _ _ he => by cases he; exact hn)).1) (fun b hb => (h.b _ _ hb (fun _ _ _ he => by cases he; exact hn)).2)
  | .subp k i j .., _, hn, hx => by
    simp only [AV.ns] at hn
    simp only [Ok] at hx ⊢; obtain ⟨b, h1, h2⟩ := hx; exact ⟨b, (h.b _ _ h1 (fun _ _ _ he => by cases he; exact hn)).1, h2⟩
  | .agg xs, _, hn, hx => by simp only [AV.ns] at hn; simp only [Ok] at hx ⊢; obtain ⟨us, h1, h2⟩ := hx; exact ⟨us, h1, nsL_ok h xs us hn h2⟩
  | .tup xs, _, hn, hx => by simp only [AV.ns] at hn; simp only [Ok] at hx ⊢; obtain ⟨us, h1, h2⟩ := hx; exact ⟨us, h1, nsL_ok h xs us hn h2⟩
  | .fn _ xs, _, hn, hx => by simp only [AV.ns] at hn; simp only [Ok] at hx ⊢; obtain ⟨us, h1, h2⟩ := hx; exact ⟨us, h1, nsL_ok h xs us hn h2⟩
  | .bad, _, _, _ => by simp only [Ok]
theorem nsL_ok {m m' : Mem} {ks : List Nat} (h : m.leT m' ks) : ∀ (xs : List AV) (us : List Value), nsL ks xs → Oks m xs us → Oks m' xs us
  | [], _, _, hx => by simpa only [Oks] using hx
  | x :: xs, _, hn, hx => by simp only [nsL] at hn; simp only [Oks] at hx ⊢; obtain ⟨u, vs, h1, h2, h3⟩ := hx; exact ⟨u, vs, h1, ns_ok h x u hn.1 h2, nsL_ok h xs vs hn.2 h3⟩
end

theorem ChunkOk.keepT {m m' : Mem} {w w' : World} {ks : List Nat} {k : Nat} {c : Chunk} (hT : m.leT m' ks) (hk : k ∉ ks) (hroot : m'.b (.root k) = m.b (.root k)) (hsub : ∀ i j, m'.b (.sub k i j) = m.b (.sub k i j))
    (hw : ∀ l b, l.key = k → m.b l = some b → w'.heap[b]? = w.heap[b]?) (hn : nsC ks c) (h : ChunkOk m w k c) : ChunkOk m' w' k c := by
  cases c with
  | pin k' ob zz => exact fun b hb => ⟨(hT.b _ _ (h b hb).1 (fun _ _ _ he => by cases he)).1, Nat.le_trans (h b hb).2 (hT.b _ _ (h b hb).1 (fun _ _ _ he => by cases he)).2⟩
  | fact xs us => exact nsL_ok hT _ _ hn h
  | box e cells =>
    obtain ⟨b, vs, fr, h1, h2, h3, h4⟩ := h
    exact ⟨b, vs, fr, by rw [hroot]; exact h1, by rw [hw _ _ rfl h1]; exact h2, h3, nsL_ok hT _ _ hn h4⟩
  | row e E rows =>
    rcases h with ⟨h1, h2⟩ | ⟨b, vs, fr, h1, h2, h3, h4, h5⟩
    · exact .inl ⟨by rw [hroot]; exact h1, h2⟩
    · refine .inr ⟨b, vs, fr, by rw [hroot]; exact h1, by rw [hw _ _ rfl h1]; exact h2, h3, h4, fun i row hi => ⟨(h5 i row hi).1, fun j c hj => ?_⟩⟩
      obtain ⟨y, hy, hc⟩ := (h5 i row hi).2 j c hj
      refine ⟨y, hy, ?_⟩
      cases c with
      | v x => exact hc
      | s e' E' rows' =>
        obtain ⟨hs, hnn⟩ := hc
        have hst : ∀ k' i' j', Lab.sub k i j = .sub k' i' j' → k' ∉ ks := fun _ _ _ he => by cases he; exact hk
        refine ⟨hs.mono (fun b hb => (hT.b _ _ hb hst).1) (fun b hb => (hT.b _ _ hb hst).2), ?_⟩
        rcases hnn with ⟨n1, n2⟩ | ⟨b', vs', fr', n1, n2, n3, n4, n5⟩
        · exact .inl ⟨by rw [hsub]; exact n1, n2⟩
        · exact .inr ⟨b', vs', fr', by rw [hsub]; exact n1, by rw [hw _ _ rfl n1]; exact n2, n3, n4, n5⟩

def Mem.turn (m : Mem) (σ : Lab → Option Lab) (m' : Mem) (w' : World) : Mem := ⟨m.r, fun l' => match σ l' with | some l => m'.b l | none => m.b l', bsz w'⟩

theorem frm_trans {B : Base} {m : Mem} {s : St} {a : Act} {w w' : World} (hs : Sat B m s a w) {own : Nat → Prop} (hfr : Frm w own w') (ho : ∀ b, own b → ∃ l, m.b l = some b) : Frm B.w0 B.own0 w' :=
  ⟨Nat.le_trans hs.frm.size hfr.size, hfr.os.trans hs.frm.os, hfr.tape.trans hs.frm.tape, hfr.output.trans hs.frm.output, fun b h1 h2 => by
    rw [hfr.block b (Nat.lt_of_lt_of_le h1 hs.frm.size) (fun hob => by
      obtain ⟨l, hl⟩ := ho b hob
      rcases hs.own l b hl with h3 | h3
      · exact h2 h3
      · omega)]
    exact hs.frm.block b h1 h2⟩

theorem Sat.turned {B : Base} {m : Mem} {s : St} {a : Act} {w : World} (hs : Sat B m s a w) {ρ σ : Lab → Option Lab} (hrs : ∀ l l', ρ l = some l' ↔ σ l' = some l) {m' : Mem} {w' : World} {h1 : Heap} {n : Nat}
    (hfr : Frm w (fun b => ∃ l, (ρ l).bind m.b = some b) w') (hc' : Core m' w' h1 n) (hown : ∀ l b, m'.b l = some b → (∃ l', (ρ l').bind m.b = some b) ∨ w.heap.size ≤ b) (hlt : ∀ l' l, σ l' = some l → l'.key < s.nk)
    {h' : Heap} (hch : ∀ k c, look? h' k = some c → ChunkOk (m.turn σ m' w') w' k c) (ht : TOk (m.turn σ m' w') s.t a.tmps) : Sat B (m.turn σ m' w') ⟨s.t, h', s.nk, s.N⟩ a w' := by
  have hob : ∀ b, (∃ l, (ρ l).bind m.b = some b) → ∃ l q, σ l = some q ∧ m.b l = some b := fun b ⟨l, hl⟩ => by
    cases hr : ρ l with
    | none => rw [hr] at hl; simp at hl
    | some q => rw [hr] at hl; exact ⟨q, l, (hrs l q).1 hr, hl⟩
  have hcase : ∀ l b, (m.turn σ m' w').b l = some b → (∃ q, σ l = some q ∧ m'.b q = some b) ∨ (σ l = none ∧ m.b l = some b) := fun l b hl => by
    simp only [Mem.turn] at hl
    cases hσ : σ l with
    | none => rw [hσ] at hl; exact .inr ⟨rfl, hl⟩
    | some q => rw [hσ] at hl; exact .inl ⟨q, rfl, hl⟩
  have hclash : ∀ l l' q b, σ l = some q → m'.b q = some b → σ l' = none → m.b l' = some b → False := fun l l' q b h1 h2 h3 h4 => by
    rcases hown q b h2 with ho | ho
    · obtain ⟨l2, q2, g1, g2⟩ := hob b ho
      have := hs.core.inj _ _ _ g2 h4
      subst this
      rw [h3] at g1; cases g1
    · have := hs.core.lt _ _ h4; omega
  refine ⟨hs.defers, hs.size, hs.r, ⟨?_, ?_, fun _ => rfl, ?_, ?_, hch⟩, ?_, frm_trans hs hfr (fun b hb => by obtain ⟨l, q, _, g⟩ := hob b hb; exact ⟨l, g⟩), ht⟩
  · intro l l' b h1 h2
    rcases hcase l b h1 with ⟨q, k1, g1⟩ | ⟨k1, g1⟩ <;> rcases hcase l' b h2 with ⟨q2, k2, g2⟩ | ⟨k2, g2⟩
    · have := hc'.inj _ _ _ g1 g2
      subst this
      have e1 := (hrs q l).2 k1
      have e2 := (hrs q l').2 k2
      rw [e1] at e2; simpa using e2
    · exact (hclash l l' q b k1 g1 k2 g2).elim
    · exact (hclash l' l q2 b k2 g2 k1 g1).elim
    · exact hs.core.inj _ _ _ g1 g2
  · intro l b h1
    rcases hcase l b h1 with ⟨q, k1, g1⟩ | ⟨k1, g1⟩
    · exact hc'.lt _ _ g1
    · exact Nat.lt_of_lt_of_le (hs.core.lt _ _ g1) hfr.size
  · intro b o hro
    obtain ⟨h1, h2⟩ := hs.core.ro b o hro
    have hb := (Array.getElem?_eq_some_iff.1 h1).1
    refine ⟨by rw [hfr.block b hb (fun hx => by obtain ⟨l, q, _, g⟩ := hob b hx; exact h2 l g)]; exact h1, fun l hl => ?_⟩
    rcases hcase l b hl with ⟨q, k1, g1⟩ | ⟨k1, g1⟩
    · rcases hown q b g1 with hx | hx
      · obtain ⟨l, q, _, g⟩ := hob b hx; exact h2 l g
      · omega
    · exact h2 l g1
  · intro k hk
    have hk' : s.nk ≤ k := hk
    have hn : ∀ l, l.key = k → σ l = none := fun l hl => by
      cases hσ : σ l with
      | none => rfl
      | some q => have := hlt _ _ hσ; omega
    obtain ⟨h1, h2⟩ := hs.core.new k hk
    refine ⟨?_, fun i j => ?_⟩
    · simp only [Mem.turn, hn (.root k) rfl]; exact h1
    · simp only [Mem.turn, hn (.sub k i j) rfl]; exact h2 i j
  · intro l b hl
    rcases hcase l b hl with ⟨q, k1, g1⟩ | ⟨k1, g1⟩
    · rcases hown q b g1 with hx | hx
      · obtain ⟨l, q, _, g⟩ := hob b hx; exact hs.own l b g
      · exact .inr (Nat.le_trans hs.frm.size hx)
    · exact hs.own l b g1

/-! ### A call that writes into rows that the caller owns -/
mutual
/-- The callee's keys, in the caller's words. -/
def AV.re (ks : List Nat) : AV → AV
  | .sl k E lo n => .sl (ks.getD k 0) E lo n
  | .agg xs => .agg (reL ks xs)
  | .v x => .v x
  | .rd E rows => .rd E rows
  | .rp row j => .rp row j
  | .ptr .. => .bad
  | .sub .. => .bad
  | .subp .. => .bad
  | .tup _ => .bad
  | .fn _ _ => .bad
  | .rq _ _ => .bad
  | .bad => .bad
def reL (ks : List Nat) : List AV → List AV
  | [] => []
  | x :: xs => AV.re ks x :: reL ks xs
end
mutual
def AV.reP : AV → Prop
  | .sl .. => True
  | .agg xs => rePL xs
  | .v _ => True
  | .rd .. => True
  | .rp .. => True
  | .ptr .. => False
  | .sub .. => False
  | .subp .. => False
  | .tup _ => False
  | .fn _ _ => False
  | .rq _ _ => False
  | .bad => True
def rePL : List AV → Prop
  | [] => True
  | x :: xs => AV.reP x ∧ rePL xs
end
mutual
theorem re_ok {m m0 : Mem} {ks : List Nat} (hr : m0.r = m.r) (hz : m0.z = m.z) (hb : ∀ k, k < ks.length → m0.b (.root k) = m.b (.root (ks.getD k 0))) : ∀ (x : AV) (u : Value), AV.reP x → AV.lt ks.length x → Ok m (x.re ks) u → Ok m0 x u
  | .sl k E lo n, u, _, hl, h => by simp only [AV.lt] at hl; simp only [AV.re, Ok] at h ⊢; rw [hz, hb k hl]; exact h
  | .agg xs, u, hp, hl, h => by simp only [AV.lt] at hl; simp only [AV.reP] at hp; simp only [AV.re, Ok] at h ⊢; obtain ⟨us, h1, h2⟩ := h; exact ⟨us, h1, reL_ok hr hz hb xs us hp hl h2⟩
  | .v x, u, _, _, h => by simp only [AV.re, Ok] at h ⊢; exact h
  | .rd E rows, u, _, _, h => by simp only [AV.re, Ok] at h ⊢; rw [hr]; exact h
  | .rp row j, u, _, _, h => by simp only [AV.re, Ok] at h ⊢; rw [hr]; exact h
  | .ptr .., u, hp, _, _ => by simp only [AV.reP] at hp
  | .sub .., u, hp, _, _ => by simp only [AV.reP] at hp
  | .subp .., u, hp, _, _ => by simp only [AV.reP] at hp
  | .tup _, u, hp, _, _ => by simp only [AV.reP] at hp
  | .fn _ _, u, hp, _, _ => by simp only [AV.reP] at hp
  | .rq _ _, u, hp, _, _ => by simp only [AV.reP] at hp
  | .bad, u, _, _, _ => ok_bad
theorem reL_ok {m m0 : Mem} {ks : List Nat} (hr : m0.r = m.r) (hz : m0.z = m.z) (hb : ∀ k, k < ks.length → m0.b (.root k) = m.b (.root (ks.getD k 0))) : ∀ (xs : List AV) (us : List Value), rePL xs → ltL ks.length xs → Oks m (reL ks xs) us → Oks m0 xs us
  | [], us, _, _, h => by simp only [reL, Oks] at h ⊢; exact h
  | x :: xs, us, hp, hl, h => by
    simp only [ltL] at hl
    simp only [rePL] at hp
    simp only [reL, Oks] at h ⊢
    obtain ⟨u, vs, h1, h2, h3⟩ := h
    exact ⟨u, vs, h1, re_ok hr hz hb x u hp.1 hl.1 h2, reL_ok hr hz hb xs vs hp.2 hl.2 h3⟩
end

def isRow : Chunk → Prop
  | .row .. => True
  | .box .. => False
  | .pin .. => False
  | .fact .. => False
/-- The chunks that the callee is to find, under the caller's keys. -/
def inH (ks : List Nat) (h : Heap) : Heap → Prop
  | [] => True
  | (q, c) :: r => q < ks.length ∧ isRow c ∧ look? h (ks.getD q 0) = some c ∧ inH ks h r
def rowsH (n : Nat) : Heap → Prop
  | [] => True
  | (q, c) :: r => q < n ∧ isRow c ∧ rowsH n r
def upH (ks : List Nat) : Heap → Heap → Heap
  | [], r => r
  | (q, c) :: h, r => (ks.getD q 0, c) :: upH ks h r
def delH (ks : List Nat) : Heap → Heap
  | [] => []
  | (k, c) :: r => if k ∈ ks then delH ks r else (k, c) :: delH ks r
theorem inH_look {ks : List Nat} {h : Heap} : ∀ {h0 : Heap} {q : Nat} {c : Chunk}, inH ks h h0 → look? h0 q = some c → q < ks.length ∧ isRow c ∧ look? h (ks.getD q 0) = some c
  | [], _, _, _, h => by simp [look?] at h
  | (q', c') :: h0, q, c, hi, hk => by
    simp only [inH] at hi
    simp only [look?] at hk
    split at hk
    · rename_i he; subst he
      simp only [Option.some.injEq] at hk; subst hk; exact ⟨hi.1, hi.2.1, hi.2.2.1⟩
    · exact inH_look hi.2.2.2 hk
theorem delH_look {ks : List Nat} : ∀ {h : Heap} {k : Nat} {c : Chunk}, look? (delH ks h) k = some c → k ∉ ks ∧ look? h k = some c
  | [], _, _, h => by simp [delH, look?] at h
  | (k', c') :: h, k, c, hk => by
    simp only [delH] at hk
    split at hk
    · rename_i hm
      obtain ⟨h1, h2⟩ := delH_look hk
      refine ⟨h1, ?_⟩
      simp only [look?]
      rw [if_neg (fun (he : k' = k) => h1 (by rw [← he]; exact hm))]
      exact h2
    · rename_i hm
      simp only [look?] at hk ⊢
      split at hk
      · rename_i he; subst he
        simp only [Option.some.injEq] at hk; subst hk
        exact ⟨hm, by simp⟩
      · rename_i he
        obtain ⟨h1, h2⟩ := delH_look hk
        exact ⟨h1, by rw [if_neg he]; exact h2⟩
/-- The last chunk wins nothing: the first one of a key counts. -/
theorem upH_look {ks : List Nat} (hnd : ks.Nodup) {r : Heap} : ∀ {h1 : Heap} {k : Nat} {c : Chunk}, rowsH ks.length h1 → look? (upH ks h1 r) k = some c → (∃ q, q < ks.length ∧ ks.getD q 0 = k ∧ isRow c ∧ look? h1 q = some c) ∨ look? r k = some c
  | [], _, _, _, h => .inr h
  | (q', c') :: h1, k, c, hr, hk => by
    simp only [rowsH] at hr
    simp only [upH, look?] at hk
    split at hk
    · rename_i he
      simp only [Option.some.injEq] at hk; subst hk
      exact .inl ⟨q', hr.1, he, hr.2.1, by simp [look?]⟩
    · rename_i he
      rcases upH_look hnd hr.2.2 hk with ⟨q, g1, g2, g3, g4⟩ | g
      · refine .inl ⟨q, g1, g2, g3, ?_⟩
        simp only [look?]
        rw [if_neg (fun hq => he (by rw [hq]; exact g2))]
        exact g4
      · exact .inr g

def idx (k : Nat) : List Nat → Option Nat
  | [] => none
  | x :: r => if x = k then some 0 else (idx k r).map (· + 1)
theorem idx_some {k : Nat} : ∀ {ks : List Nat} {q : Nat}, ks.Nodup → (idx k ks = some q ↔ q < ks.length ∧ ks.getD q 0 = k)
  | [], q, _ => by simp [idx]
  | x :: r, q, hnd => by
    simp only [List.nodup_cons] at hnd
    have ih := fun q => idx_some (k := k) (ks := r) (q := q) hnd.2
    simp only [idx]
    split
    · rename_i he; subst he
      cases q with
      | zero => simp
      | succ q =>
        simp only [Option.some.injEq, List.length_cons, List.getD_cons_succ]
        refine ⟨fun h => by omega, fun ⟨h1, h2⟩ => ?_⟩
        exfalso
        apply hnd.1
        have hq : q < r.length := by omega
        rw [List.getD_eq_getElem?_getD, List.getElem?_eq_getElem hq] at h2
        simp only [Option.getD_some] at h2
        rw [← h2]; exact List.getElem_mem hq
    · rename_i he
      cases q with
      | zero =>
        simp only [Option.map_eq_some_iff, List.length_cons, List.getD_cons_zero]
        refine ⟨fun ⟨a, _, h⟩ => by omega, fun ⟨_, h⟩ => absurd h he⟩
      | succ q =>
        simp only [Option.map_eq_some_iff, List.length_cons, List.getD_cons_succ]
        constructor
        · rintro ⟨a, h1, h2⟩
          have : a = q := by omega
          subst this
          have := (ih a).1 h1
          exact ⟨by omega, this.2⟩
        · rintro ⟨h1, h2⟩
          exact ⟨q, (ih q).2 ⟨by omega, h2⟩, rfl⟩
theorem idx_none {k : Nat} {ks : List Nat} (hnd : ks.Nodup) : idx k ks = none ↔ k ∉ ks := by
  constructor
  · intro h hm
    obtain ⟨q, hq, he⟩ := List.getElem_of_mem hm
    have : idx k ks = some q := (idx_some hnd).2 ⟨hq, by rw [List.getD_eq_getElem?_getD, List.getElem?_eq_getElem hq]; simpa using he⟩
    rw [h] at this; cases this
  · intro h
    cases hi : idx k ks with
    | none => rfl
    | some q =>
      obtain ⟨h1, h2⟩ := (idx_some hnd).1 hi
      exfalso; apply h
      rw [List.getD_eq_getElem?_getD, List.getElem?_eq_getElem h1] at h2
      simp only [Option.getD_some] at h2
      rw [← h2]; exact List.getElem_mem h1

theorem getD_mem {ks : List Nat} {q : Nat} (hq : q < ks.length) : ks.getD q 0 ∈ ks := by
  rw [List.getD_eq_getElem?_getD, List.getElem?_eq_getElem hq]; exact List.getElem_mem hq
def rhoK (ks : List Nat) : Lab → Option Lab
  | .root q => if q < ks.length then some (.root (ks.getD q 0)) else none
  | .sub q i j => if q < ks.length then some (.sub (ks.getD q 0) i j) else none
def sigK (ks : List Nat) : Lab → Option Lab
  | .root k => (idx k ks).map .root
  | .sub k i j => (idx k ks).map (.sub · i j)
theorem rho_sig {ks : List Nat} (hnd : ks.Nodup) (l l' : Lab) : rhoK ks l = some l' ↔ sigK ks l' = some l := by
  cases l with
  | root q =>
    cases l' with
    | root k =>
      simp only [rhoK, sigK, Option.map_eq_some_iff]
      constructor
      · intro h
        split at h
        · rename_i hq; simp only [Option.some.injEq, Lab.root.injEq] at h; exact ⟨q, (idx_some hnd).2 ⟨hq, h⟩, rfl⟩
        · simp at h
      · rintro ⟨q', h1, h2⟩
        simp only [Lab.root.injEq] at h2; subst h2
        obtain ⟨g1, g2⟩ := (idx_some hnd).1 h1
        rw [if_pos g1, g2]
    | sub k i j =>
      simp only [rhoK, sigK, Option.map_eq_some_iff]
      constructor
      · intro h; split at h <;> simp at h
      · rintro ⟨q', h1, h2⟩; simp at h2
  | sub q i j =>
    cases l' with
    | root k =>
      simp only [rhoK, sigK, Option.map_eq_some_iff]
      constructor
      · intro h; split at h <;> simp at h
      · rintro ⟨q', h1, h2⟩; simp at h2
    | sub k i' j' =>
      simp only [rhoK, sigK, Option.map_eq_some_iff]
      constructor
      · intro h
        split at h
        · rename_i hq; simp only [Option.some.injEq, Lab.sub.injEq] at h; obtain ⟨h1, rfl, rfl⟩ := h; exact ⟨q, (idx_some hnd).2 ⟨hq, h1⟩, rfl⟩
        · simp at h
      · rintro ⟨q', h1, h2⟩
        simp only [Lab.sub.injEq] at h2; obtain ⟨rfl, rfl, rfl⟩ := h2
        obtain ⟨g1, g2⟩ := (idx_some hnd).1 h1
        rw [if_pos g1, g2]

/-- The rows of a key, seen from another memory that has the same blocks under another key. -/
theorem row_move {m m' : Mem} {w : World} {k k' : Nat} {c : Chunk} (hc : isRow c) (hr : m'.b (.root k') = m.b (.root k)) (hs : ∀ i j, m'.b (.sub k' i j) = m.b (.sub k i j)) (hz : ∀ b, m.z b ≤ m'.z b) (h : ChunkOk m w k c) : ChunkOk m' w k' c := by
  cases c with
  | pin => exact hc.elim
  | fact => exact hc.elim
  | box => exact hc.elim
  | row e E rows =>
    rcases h with ⟨h1, h2⟩ | ⟨b, vs, fr, h1, h2, h3, h4, h5⟩
    · exact .inl ⟨by rw [hr]; exact h1, h2⟩
    · refine .inr ⟨b, vs, fr, by rw [hr]; exact h1, h2, h3, h4, fun i row hi => ⟨(h5 i row hi).1, fun j c hj => ?_⟩⟩
      obtain ⟨y, hy, hcell⟩ := (h5 i row hi).2 j c hj
      refine ⟨y, hy, ?_⟩
      cases c with
      | v x => exact hcell
      | s e' E' rows' =>
        obtain ⟨q1, q2⟩ := hcell
        refine ⟨q1.mono (fun b hb => by rw [hs]; exact hb) (fun b _ => hz b), ?_⟩
        rcases q2 with ⟨n1, n2⟩ | ⟨b', vs', fr', n1, n2, n3⟩
        · exact .inl ⟨by rw [hs]; exact n1, n2⟩
        · exact .inr ⟨b', vs', fr', by rw [hs]; exact n1, n2, n3⟩

/-- The memory as the callee sees it. -/
def Mem.rho (m : Mem) (ρ : Lab → Option Lab) : Mem := ⟨m.r, fun l => (ρ l).bind m.b, m.z⟩
theorem core_rho {m : Mem} {w : World} {h h0 : Heap} {nk n : Nat} {ρ σ : Lab → Option Lab} (hc : Core m w h nk) (hrs : ∀ l l', ρ l = some l' ↔ σ l' = some l) (hnew : ∀ k, n ≤ k → ρ (.root k) = none ∧ ∀ i j, ρ (.sub k i j) = none)
    (hch : ∀ k c, look? h0 k = some c → ChunkOk (m.rho ρ) w k c) : Core (m.rho ρ) w h0 n := by
  have hcase : ∀ l b, (m.rho ρ).b l = some b → ∃ q, ρ l = some q ∧ m.b q = some b := fun l b hl => by
    simp only [Mem.rho] at hl
    cases hr : ρ l with
    | none => rw [hr] at hl; simp at hl
    | some q => rw [hr] at hl; exact ⟨q, rfl, hl⟩
  refine ⟨fun l l' b h1 h2 => ?_, fun l b h1 => ?_, hc.z, fun b o hr => ⟨(hc.ro b o hr).1, fun l hl => ?_⟩, fun k hk => ⟨?_, fun i j => ?_⟩, hch⟩
  · obtain ⟨q, e1, g1⟩ := hcase l b h1
    obtain ⟨q', e2, g2⟩ := hcase l' b h2
    have := hc.inj _ _ _ g1 g2
    subst this
    have k1 := (hrs l q).1 e1
    have k2 := (hrs l' q).1 e2
    rw [k1] at k2; simpa using k2
  · obtain ⟨q, e1, g1⟩ := hcase l b h1
    exact hc.lt _ _ g1
  · obtain ⟨q, e1, g1⟩ := hcase l b hl
    exact (hc.ro b o hr).2 q g1
  · simp only [Mem.rho, (hnew k hk).1, Option.bind_none]
  · simp only [Mem.rho, (hnew k hk).2 i j, Option.bind_none]

theorem V_callT (hm : P.follows .mixedOrders = true) {all r : List Oper} {d : Option Tmp} {ty : TypeId} {ps : String} {af : Array Edge} {g : Option (Nat × Bool)} {S : List Fr} {s : St} {fo : Operand} {args : List Operand} {ts : Array TypeId}
    {f : FuncId} {cap xs : List AV} {v : Value} {h0 h1 : Heap} {n : Nat} (ks : List Nat) (hc : Turns P f xs n h0 v h1)
    (hG : s.G all g = true ∧ s.ev fo = (true, .fn f cap) ∧ evsP s args ∧ evs s args ++ cap = reL ks xs ∧ rePL xs ∧ ltL ks.length xs ∧ ks.length = n ∧ (∀ k ∈ ks, k < s.nk) ∧ inH ks s.h h0 ∧ rowsH ks.length h1 ∧ nsT ks s.t ∧ nsH ks s.h) (hnd : ks.Nodup) (hg : s.gOk all g) (hd : dstN s d) (hw : wfS S)
    (hr : V P K (.ops false all r :: S) (St.putO ⟨s.t, upH ks h1 (delH ks s.h), s.nk, s.N⟩ d true (.v v))) : V P K (.ops false all (⟨d, .call ⟨.value fo, ⟨args⟩, ts⟩, ty, ps, af, g⟩ :: r) :: S) s := by
  rw [V_call]
  have hgd := V_good hm (S := .ops false all r :: S) (by simpa only [wfT] using hw) hr
  refine good_of_den (by simp) fun B Q hQ m a w hs => ?_
  obtain ⟨hGt, g1, g2, g3, g4, g5, g6, g7, g8, g9, g10, g11⟩ := hG
  subst g6
  obtain ⟨us, k1, k2⟩ := call_enter (P := P) (o := ⟨d, .call ⟨.value fo, ⟨args⟩, ts⟩, ty, ps, af, g⟩) hs rfl g1 g2 hc.enter
  have hwt := wanted_eq hs all.toArray (⟨d, .call ⟨.value fo, ⟨args⟩, ts⟩, ty, ps, af, g⟩ : Oper) (by simpa using hg)
  rw [List.toList_toArray, hGt] at hwt
  simp only [den, Exit.then]
  unfold wpList
  rw [if_pos hwt]
  refine .inl ?_
  unfold Oper.wp
  rw [k2 w, Oper.upon_enter]
  have hrs := rho_sig hnd
  have hroot : ∀ k, k < ks.length → (m.rho (rhoK ks)).b (.root k) = m.b (.root (ks.getD k 0)) := fun k hk => by simp only [Mem.rho, rhoK, if_pos hk, Option.bind_some]
  have hsub : ∀ k i j, k < ks.length → (m.rho (rhoK ks)).b (.sub k i j) = m.b (.sub (ks.getD k 0) i j) := fun k i j hk => by simp only [Mem.rho, rhoK, if_pos hk, Option.bind_some]
  have hcore0 : Core (m.rho (rhoK ks)) w h0 ks.length := by
    refine core_rho hs.core hrs (fun k hk => ⟨?_, fun i j => ?_⟩) fun q c hq => ?_
    · simp only [rhoK]; rw [if_neg (by omega)]
    · simp only [rhoK]; rw [if_neg (by omega)]
    · obtain ⟨q1, q2, q3⟩ := inH_look g8 hq
      exact row_move q2 (hroot q q1) (fun i j => hsub q i j q1) (fun _ => Nat.le_refl _) (hs.core.chunk _ _ q3)
  rw [g3] at k1
  have hx0 := reL_ok (m := m) (m0 := m.rho (rhoK ks)) rfl rfl hroot xs us g4 g5 k1
  refine (hc.calls _ w us hcore0 hx0).mono fun e w' ⟨he, hfr, m', hc', hmr, hown, hpin⟩ => ?_
  subst he
  have hlt : ∀ l' l, sigK ks l' = some l → l'.key < s.nk := fun l' l hl => by
    have hl := (hrs l l').2 hl
    cases l with
    | root q =>
      simp only [rhoK] at hl
      split at hl
      · rename_i hq
        simp only [Option.some.injEq] at hl; subst hl
        exact g7 _ (getD_mem hq)
      · simp at hl
    | sub q i j =>
      simp only [rhoK] at hl
      split at hl
      · rename_i hq
        simp only [Option.some.injEq] at hl; subst hl
        exact g7 _ (getD_mem hq)
      · simp at hl
  have hzle : ∀ b, b < w.heap.size → (¬ ∃ l, (m.rho (rhoK ks)).b l = some b) → bsz w' b = bsz w b := fun b hb hno => by
    unfold bsz; rw [hfr.block b hb hno]
  have hnotin : ∀ l b, m.b l = some b → (∀ q, sigK ks l ≠ some q) → ¬ ∃ l0, (m.rho (rhoK ks)).b l0 = some b := fun l b hl hno ⟨l0, hl0⟩ => by
    simp only [Mem.rho] at hl0
    cases hr0 : rhoK ks l0 with
    | none => rw [hr0] at hl0; simp at hl0
    | some q =>
      rw [hr0] at hl0
      have hl0 : m.b q = some b := hl0
      have := hs.core.inj _ _ _ hl0 hl
      subst this
      exact hno _ ((hrs l0 q).1 hr0)
  have hT : m.leT (m.turn (sigK ks) m' w') ks := by
    refine ⟨rfl, fun l b hl hno => ?_⟩
    cases hσ : sigK ks l with
    | none =>
      refine ⟨by simp only [Mem.turn, hσ]; exact hl, ?_⟩
      show m.z b ≤ bsz w' b
      rw [hzle b (hs.core.lt _ _ hl) (hnotin l b hl (fun q => by rw [hσ]; simp)), hs.core.z]; exact Nat.le_refl _
    | some q =>
      have hρ := (hrs q l).2 hσ
      cases q with
      | sub q i j =>
        simp only [rhoK] at hρ
        split at hρ
        · rename_i hq
          simp only [Option.some.injEq] at hρ; subst hρ
          exfalso
          exact hno _ _ _ rfl (getD_mem hq)
        · simp at hρ
      | root q =>
        have hq : q < ks.length := by
          simp only [rhoK] at hρ
          split at hρ
          · assumption
          · simp at hρ
        have : (m.rho (rhoK ks)).b (.root q) = some b := by simp only [Mem.rho, hρ]; exact hl
        obtain ⟨p1, p2⟩ := hpin q b hq this
        refine ⟨by simp only [Mem.turn, hσ]; exact p1, ?_⟩
        show m.z b ≤ bsz w' b
        rw [← hc'.z]; exact p2
  have hsig : ∀ k, k ∉ ks → sigK ks (.root k) = none ∧ ∀ i j, sigK ks (.sub k i j) = none := fun k hk => by
    have := (idx_none hnd).2 hk
    exact ⟨by simp only [sigK, this, Option.map_none], fun i j => by simp only [sigK, this, Option.map_none]⟩
  have hs' : Sat B (m.turn (sigK ks) m' w') ⟨s.t, upH ks h1 (delH ks s.h), s.nk, s.N⟩ a w' := by
    refine hs.turned hrs hfr hc' hown hlt (fun k c hk => ?_) (fun d => ⟨fun hcd => ns_ok hT _ _ (nsT_look g10 d) ((hs.tmps d).1 hcd), (hs.tmps d).2⟩)
    rcases upH_look hnd g9 hk with ⟨q, q1, q2, q3, q4⟩ | hk
    · have hck := hc'.chunk q c q4
      have hi : idx k ks = some q := (idx_some hnd).2 ⟨q1, q2⟩
      exact row_move q3 (by simp only [Mem.turn, sigK, hi, Option.map_some]) (fun i j => by simp only [Mem.turn, sigK, hi, Option.map_some]) (fun b => by rw [hc'.z]; exact Nat.le_refl _) hck
    · obtain ⟨q1, q2⟩ := delH_look hk
      obtain ⟨e1, e2⟩ := hsig k q1
      refine (hs.core.chunk k c q2).keepT hT q1 (by simp only [Mem.turn, e1]) (fun i j => by simp only [Mem.turn, e2]) (fun l b hlk hl => ?_) (nsH_look g11 q2)
      refine hfr.block b (hs.core.lt _ _ hl) (hnotin l b hl fun q => ?_)
      cases l with
      | root k' => simp only [Lab.key] at hlk; subst hlk; rw [e1]; simp
      | sub k' i j => simp only [Lab.key] at hlk; subst hlk; rw [e2]; simp
  have hd' : dstN ⟨s.t, upH ks h1 (delH ks s.h), s.nk, s.N⟩ d := by cases d <;> exact hd
  have hput := putO_sat (c := true) (x := .v v) (u := v) hs' hd' (fun _ => ok_v.2 rfl) (fun hc => by simp at hc)
  have := hgd.use hQ (by simp) hput
  simp only [den, Exit.then] at this
  exact this

end Go.Eng

/- The engine, part W: rows of structs that hold slices: storing and appending such a struct. -/
set_option linter.unusedVariables false
set_option linter.unusedSimpArgs false
set_option linter.unusedSectionVars false
namespace Go.Eng
open Go

variable {P : Program} {K : St → Prop}

mutual
/-- Nothing in it points at the rows ks, or into a nested slice of k. -/
def AV.fr (ks : List Nat) (k : Nat) : AV → Prop
  | .sl q _ _ _ => q ∉ ks
  | .ptr q _ _ _ => q ∉ ks
  | .sub q _ _ _ _ _ => q ≠ k
  | .subp q _ _ _ _ _ => q ≠ k
  | .agg xs => frL ks k xs
  | .tup xs => frL ks k xs
  | .fn _ xs => frL ks k xs
  | .rq xs _ => frL ks k xs
  | .v _ => True
  | .rd _ _ => True
  | .rp _ _ => True
  | .bad => True
def frL (ks : List Nat) (k : Nat) : List AV → Prop
  | [] => True
  | x :: xs => AV.fr ks k x ∧ frL ks k xs
end
def frC (ks : List Nat) (k : Nat) : Chunk → Prop
  | .box _ cells => frL ks k cells
  | .fact xs _ => frL ks k xs
  | .row .. => True
  | .pin q _ _ => q ∉ ks
def frT (ks : List Nat) (k : Nat) (t : List (Nat × Bool × AV)) : List (Nat × Bool × AV) → Prop
  | [] => True
  | (d, c, x) :: r => AV.fr ks k x ∧ look (true, .bad) t d = (c, x) ∧ frT ks k t r
def frH (ks : List Nat) (k : Nat) (h : Heap) : Heap → Prop
  | [] => True
  | (q, c) :: r => q ∉ ks ∧ q ≠ k ∧ frC ks k c ∧ look? h q = some c ∧ frH ks k h r
theorem frT_look {ks : List Nat} {k : Nat} {t : List (Nat × Bool × AV)} : ∀ {t' : List (Nat × Bool × AV)}, frT ks k t t' → ∀ d, look (true, .bad) t' d = (true, .bad) ∨ (look (true, .bad) t' d = look (true, .bad) t d ∧ AV.fr ks k (look (true, .bad) t' d).2)
  | [], _, d => .inl rfl
  | (d', c, x) :: r, h, d => by
    simp only [frT] at h
    obtain ⟨h1, h2, h3⟩ := h
    simp only [look]
    split
    · rename_i he; subst he; exact .inr ⟨h2.symm, h1⟩
    · exact frT_look h3 d
theorem frH_look {ks : List Nat} {k : Nat} {hp : Heap} : ∀ {h' : Heap}, frH ks k hp h' → ∀ {q c}, look? h' q = some c → q ∉ ks ∧ q ≠ k ∧ frC ks k c ∧ look? hp q = some c
  | [], _, q, c, hk => by simp [look?] at hk
  | (k', c') :: r, h, q, c, hk => by
    simp only [frH] at h
    obtain ⟨h1, h2, h3, h4, h5⟩ := h
    simp only [look?] at hk
    split at hk
    · rename_i he; subst he; simp only [Option.some.injEq] at hk; subst hk; exact ⟨h1, h2, h3, h4⟩
    · exact frH_look h5 hk

structure Mem.leF (m m' : Mem) (ks : List Nat) (k : Nat) : Prop where
  r : m'.r = m.r
  z : m'.z = m.z
  root : ∀ q, q ∉ ks → m'.b (.root q) = m.b (.root q)
  sub : ∀ q i j, q ≠ k → m'.b (.sub q i j) = m.b (.sub q i j)
mutual
theorem fr_ok {m m' : Mem} {ks : List Nat} {k : Nat} (h : m.leF m' ks k) : ∀ (x : AV) (u : Value), AV.fr ks k x → Ok m x u → Ok m' x u
  | .v _, _, _, hx => by simpa only [Ok] using hx
  | .rd .., _, _, hx => by simp only [Ok] at hx ⊢; rw [h.r]; exact hx
  | .rp .., _, _, hx => by simp only [Ok] at hx ⊢; rw [h.r]; exact hx
  | .rq xs _, _, hn, hx => by simp only [AV.fr] at hn; simp only [Ok] at hx ⊢; obtain ⟨b, o, us, h1, h2, h3⟩ := hx; exact ⟨b, o, us, h1, by rw [h.r]; exact h2, frL_ok h xs us hn h3⟩
  | .sl k .., _, hn, hx => by simp only [AV.fr] at hn; simp only [Ok] at hx ⊢; rw [h.root _ hn, h.z]; exact hx
  | .ptr .., _, hn, hx => by simp only [AV.fr] at hn; simp only [Ok] at hx ⊢; rw [h.root _ hn]; exact hx
  | .sub k i j .., _, hn, hx => by simp only [AV.fr] at hn; simp only [Ok] at hx ⊢; rw [h.sub _ _ _ hn, h.z]; exact hx
  | .subp k i j .., _, hn, hx => by simp only [AV.fr] at hn; simp only [Ok] at hx ⊢; rw [h.sub _ _ _ hn]; exact hx
  | .agg xs, _, hn, hx => by simp only [AV.fr] at hn; simp only [Ok] at hx ⊢; obtain ⟨us, h1, h2⟩ := hx; exact ⟨us, h1, frL_ok h xs us hn h2⟩
  | .tup xs, _, hn, hx => by simp only [AV.fr] at hn; simp only [Ok] at hx ⊢; obtain ⟨us, h1, h2⟩ := hx; exact ⟨us, h1, frL_ok h xs us hn h2⟩
  | .fn _ xs, _, hn, hx => by simp only [AV.fr] at hn; simp only [Ok] at hx ⊢; obtain ⟨us, h1, h2⟩ := hx; exact ⟨us, h1, frL_ok h xs us hn h2⟩
  | .bad, _, _, _ => by simp only [Ok]
theorem frL_ok {m m' : Mem} {ks : List Nat} {k : Nat} (h : m.leF m' ks k) : ∀ (xs : List AV) (us : List Value), frL ks k xs → Oks m xs us → Oks m' xs us
  | [], _, _, hx => by simpa only [Oks] using hx
  | x :: xs, _, hn, hx => by simp only [frL] at hn; simp only [Oks] at hx ⊢; obtain ⟨u, vs, h1, h2, h3⟩ := hx; exact ⟨u, vs, h1, fr_ok h x u hn.1 h2, frL_ok h xs vs hn.2 h3⟩
end

/-- The cells of a struct, as they lie in a row: an own slice becomes a nested one (its row's key stands in the list). -/
def nestR (h : Heap) : List AV → List Cell → List Nat → Prop
  | [], [], [] => True
  | .v z :: xs, .v z' :: cs, ks => z = z' ∧ nestR h xs cs ks
  | .sl q E lo n :: xs, .s e E' vals :: cs, q' :: ks => q' = q ∧ lo = 0 ∧ E' = E ∧ n = vals.length ∧ look? h q = some (.row e E (vals.map (·.map .v))) ∧ nestR h xs cs ks
  | _, _, _ => False
def keyOf : Option AV → Option Nat
  | some (.sl q _ _ _) => some q
  | _ => none
theorem nestR_spec {h : Heap} : ∀ {xs : List AV} {cs : List Cell} {ks : List Nat}, nestR h xs cs ks → cs.length = xs.length ∧ (∀ (j q : Nat), keyOf xs[j]? = some q → q ∈ ks) ∧
    (∀ (j : Nat) (c : Cell), cs[j]? = some c → (∃ z : Value, c = Cell.v z ∧ xs[j]? = some (AV.v z)) ∨ (∃ (q e E : Nat) (vals : List (List Value)), c = Cell.s e E vals ∧ xs[j]? = some (AV.sl q E 0 vals.length) ∧ look? h q = some (Chunk.row e E (vals.map (·.map Cell.v)))))
  | [], [], [], _ => ⟨rfl, fun j q hq => by simp [keyOf] at hq, fun j c hc => by simp at hc⟩
  | .v z :: xs, .v z' :: cs, ks, hn => by
    simp only [nestR] at hn
    obtain ⟨rfl, hn⟩ := hn
    obtain ⟨h1, h2, h3⟩ := nestR_spec hn
    refine ⟨by simp [h1], fun j q hq => ?_, fun j c hc => ?_⟩
    · cases j with
      | zero => simp [keyOf] at hq
      | succ j => exact h2 j q (by simpa using hq)
    · cases j with
      | zero => simp only [List.getElem?_cons_zero, Option.some.injEq] at hc; subst hc; exact .inl ⟨z, rfl, rfl⟩
      | succ j => exact h3 j c (by simpa using hc)
  | .sl q E lo n :: xs, .s e E' vals :: cs, q' :: ks, hn => by
    simp only [nestR] at hn
    obtain ⟨rfl, rfl, rfl, rfl, hl, hn⟩ := hn
    obtain ⟨h1, h2, h3⟩ := nestR_spec hn
    refine ⟨by simp [h1], fun j q hq => ?_, fun j c hc => ?_⟩
    · cases j with
      | zero => simp only [List.getElem?_cons_zero, keyOf, Option.some.injEq] at hq; subst hq; simp
      | succ j => exact List.mem_cons_of_mem _ (h2 j q (by simpa using hq))
    · cases j with
      | zero => simp only [List.getElem?_cons_zero, Option.some.injEq] at hc; subst hc; exact .inr ⟨q', e, E', vals, rfl, rfl, hl⟩
      | succ j => exact h3 j c (by simpa using hc)
theorem nestR_inj {h : Heap} : ∀ {xs : List AV} {cs : List Cell} {ks : List Nat}, nestR h xs cs ks → ks.Nodup → ∀ {j j' q : Nat}, keyOf xs[j]? = some q → keyOf xs[j']? = some q → j = j'
  | [], [], [], _, _, j, j', q, h1, _ => by simp [keyOf] at h1
  | .v z :: xs, .v z' :: cs, ks, hn, hnd, j, j', q, h1, h2 => by
    simp only [nestR] at hn
    cases j with
    | zero => simp [keyOf] at h1
    | succ j => cases j' with
      | zero => simp [keyOf] at h2
      | succ j' => rw [nestR_inj hn.2 hnd (j := j) (j' := j') (by simpa using h1) (by simpa using h2)]
  | .sl q0 E lo n :: xs, .s e E' vals :: cs, q' :: ks, hn, hnd, j, j', q, h1, h2 => by
    simp only [nestR] at hn
    obtain ⟨rfl, _, _, _, _, hn⟩ := hn
    simp only [List.nodup_cons] at hnd
    obtain ⟨_, g2, _⟩ := nestR_spec hn
    cases j with
    | zero =>
      cases j' with
      | zero => rfl
      | succ j' =>
        simp only [List.getElem?_cons_zero, keyOf, Option.some.injEq] at h1
        subst h1
        exact (hnd.1 (g2 j' _ (by simpa using h2))).elim
    | succ j => cases j' with
      | zero =>
        simp only [List.getElem?_cons_zero, keyOf, Option.some.injEq] at h2
        subst h2
        exact (hnd.1 (g2 j _ (by simpa using h1))).elim
      | succ j' => rw [nestR_inj hn hnd.2 (j := j) (j' := j') (by simpa using h1) (by simpa using h2)]

/-- The rows whose slices a struct holds have become its nested slices. -/
def Mem.nest (m : Mem) (k i : Nat) (cells : List AV) (ks : List Nat) : Mem :=
  { m with b := fun l => match l with
    | .root q => if q ∈ ks then none else m.b (.root q)
    | .sub q p j => if q = k ∧ p = i then (match keyOf cells[j]? with | some q' => m.b (.root q') | none => m.b (.sub q p j)) else m.b (.sub q p j) }

theorem Sat.absorb {B : Base} {m : Mem} {s : St} {a : Act} {w : World} (hs : Sat B m s a w) {k i e E : Nat} {rows : List (List Cell)} {cells : List AV} {row' : List Cell} {ks : List Nat} {us : List Value}
    (hk : look? s.h k = some (.row e E rows)) (hrow : rows[i]? = some (us.map .v)) (hx : Oks m cells us) (hn : nestR s.h cells row' ks) (hnd : ks.Nodup) (hkn : k ∉ ks)
    (t' : List (Nat × Bool × AV)) (h' : Heap) (ht : frT ks k s.t t') (hh : frH ks k s.h h') : Sat B (m.nest k i cells ks) ⟨t', (k, .row e E (rows.set i row')) :: h', s.nk, s.N⟩ a w := by
  obtain ⟨hlen, hmem, hcell⟩ := nestR_spec hn
  have hle : m.leF (m.nest k i cells ks) ks k := ⟨rfl, rfl, fun q hq => by simp only [Mem.nest, if_neg hq], fun q p j hq => by simp only [Mem.nest]; rw [if_neg (fun h => hq h.1)]⟩
  have hcase : ∀ l b, (m.nest k i cells ks).b l = some b → (∃ j q, l = .sub k i j ∧ keyOf cells[j]? = some q ∧ m.b (.root q) = some b) ∨ (m.b l = some b ∧ ∀ q, l = .root q → q ∉ ks) := by
    intro l b hl
    cases l with
    | root q =>
      simp only [Mem.nest] at hl
      split at hl
      · cases hl
      · rename_i hq; exact .inr ⟨hl, fun q' he => by cases he; exact hq⟩
    | sub q p j =>
      simp only [Mem.nest] at hl
      split at hl
      · rename_i hqp
        obtain ⟨rfl, rfl⟩ := hqp
        split at hl
        · rename_i q' hq'; exact .inl ⟨j, q', rfl, hq', hl⟩
        · exact .inr ⟨hl, fun q' he => by cases he⟩
      · exact .inr ⟨hl, fun q' he => by cases he⟩
  have hany : ∀ l b, (m.nest k i cells ks).b l = some b → ∃ l', m.b l' = some b := fun l b hl => by
    rcases hcase l b hl with ⟨j, q, _, _, h3⟩ | ⟨h1, _⟩
    · exact ⟨_, h3⟩
    · exact ⟨_, h1⟩
  refine ⟨hs.defers, hs.size, hs.r, ⟨?_, fun l b hl => by obtain ⟨l', h1⟩ := hany l b hl; exact hs.core.lt l' b h1, hs.core.z, fun b o hr => ⟨(hs.core.ro b o hr).1, fun l hl => by obtain ⟨l', h1⟩ := hany l b hl; exact (hs.core.ro b o hr).2 l' h1⟩, ?_, ?_⟩,
    fun l b hl => by obtain ⟨l', h1⟩ := hany l b hl; exact hs.own l' b h1, hs.frm, fun d => ?_⟩
  · intro l l' b h1 h2
    rcases hcase l b h1 with ⟨j, q, rfl, g1, g2⟩ | ⟨g1, g2⟩ <;> rcases hcase l' b h2 with ⟨j', q', rfl, f1, f2⟩ | ⟨f1, f2⟩
    · have := hs.core.inj _ _ _ g2 f2
      simp only [Lab.root.injEq] at this; subst this
      rw [nestR_inj hn hnd g1 f1]
    · have := hs.core.inj _ _ _ g2 f1
      exact (f2 q this.symm (hmem j q g1)).elim
    · have := hs.core.inj _ _ _ f2 g1
      exact (g2 q' this.symm (hmem j' q' f1)).elim
    · exact hs.core.inj _ _ _ g1 f1
  · intro q hq
    have hq' : s.nk ≤ q := hq
    obtain ⟨h1, h2⟩ := hs.core.new q hq
    refine ⟨?_, fun p j => ?_⟩
    · simp only [Mem.nest]; split
      · rfl
      · exact h1
    · simp only [Mem.nest]
      split
      · rename_i hqp
        exfalso
        obtain ⟨rfl, _⟩ := hqp
        rcases hs.core.chunk q _ hk with ⟨_, g⟩ | ⟨b, _, _, g, _⟩
        · subst g; simp at hrow
        · rw [h1] at g; cases g
      · exact h2 p j
  · intro q c hq
    simp only [look?] at hq
    split at hq
    · rename_i he; subst he
      simp only [Option.some.injEq] at hq; subst hq
      rcases hs.core.chunk k _ hk with ⟨_, g⟩ | ⟨b, vs, fr, h1, h2, h3, h4, h5⟩
      · subst g; simp at hrow
      refine .inr ⟨b, vs, fr, by rw [hle.root _ hkn]; exact h1, h2, h3, by simpa using h4, fun p row hp => ?_⟩
      rw [List.getElem?_set] at hp
      split at hp
      · rename_i hip; subst hip
        split at hp
        · simp only [Option.some.injEq] at hp; subst hp
          obtain ⟨hl, hcs⟩ := h5 i _ hrow
          have hul := hx.length
          refine ⟨by rw [hlen, ← hul]; simpa using hl, fun j c hj => ?_⟩
          rcases hcell j c hj with ⟨z, rfl, hz⟩ | ⟨q, e', E', vals, rfl, hz, hq⟩
          · obtain ⟨u, hu, hok⟩ := hx.get hz
            rw [ok_v] at hok; subst hok
            obtain ⟨y, hy, hyc⟩ := hcs j (.v u) (by simp [hu])
            exact ⟨y, hy, hyc⟩
          · obtain ⟨u, hu, hok⟩ := hx.get hz
            obtain ⟨y, hy, hyc⟩ := hcs j (.v u) (by simp [hu])
            have hyc : y = u := hyc
            subst hyc
            have hb : (m.nest k i cells ks).b (.sub k i j) = m.b (.root q) := by simp only [Mem.nest, and_self, if_true, hz, keyOf]
            refine ⟨y, hy, ?_, ?_⟩
            · rw [hb]; simp only [Ok] at hok; exact hok
            · rcases hs.core.chunk q _ hq with ⟨g1, g2⟩ | ⟨b', vs', fr', g1, g2, g3, g4, g5⟩
              · refine .inl ⟨by rw [hb]; exact g1, ?_⟩
                simpa using g2
              · refine .inr ⟨b', vs', fr', by rw [hb]; exact g1, g2, g3, by simpa using g4, fun p rw hrw => ?_⟩
                obtain ⟨f1, f2⟩ := g5 p (rw.map .v) (by simp [hrw])
                refine ⟨by simpa using f1, fun j' x hx' => ?_⟩
                obtain ⟨y', hy', hc'⟩ := f2 j' (.v x) (by simp [hx'])
                have hc' : y' = x := hc'
                subst hc'; exact hy'
        · cases hp
      · rename_i hip
        obtain ⟨hl, hcs⟩ := h5 p row hp
        refine ⟨hl, fun j c hj => ?_⟩
        obtain ⟨y, hy, hyc⟩ := hcs j c hj
        have hb : (m.nest k i cells ks).b (.sub k p j) = m.b (.sub k p j) := by simp only [Mem.nest]; rw [if_neg (fun h => hip h.2.symm)]
        refine ⟨y, hy, ?_⟩
        cases c with
        | v z => exact hyc
        | s e' E' vals =>
          obtain ⟨f1, f2⟩ := hyc
          refine ⟨by rw [hb]; exact f1, ?_⟩
          rcases f2 with ⟨n1, n2⟩ | ⟨b', vs', fr', n1, n2⟩
          · exact .inl ⟨by rw [hb]; exact n1, n2⟩
          · exact .inr ⟨b', vs', fr', by rw [hb]; exact n1, n2⟩
    · obtain ⟨q1, q2, q3, q4⟩ := frH_look hh hq
      have hck := hs.core.chunk q c q4
      cases c with
      | pin q' ob zz =>
        have q3 : q' ∉ ks := q3
        exact fun b hb => ⟨by rw [hle.root _ q3]; exact (hck b hb).1, (hck b hb).2⟩
      | fact xs vs => exact frL_ok hle _ _ q3 hck
      | box e' cs =>
        obtain ⟨b, vs, fr, h1, h2, h3, h4⟩ := hck
        exact ⟨b, vs, fr, by rw [hle.root _ q1]; exact h1, h2, h3, frL_ok hle _ _ q3 h4⟩
      | row e' E' rws =>
        rcases hck with ⟨h1, h2⟩ | ⟨b, vs, fr, h1, h2, h3, h4, h5⟩
        · exact .inl ⟨by rw [hle.root _ q1]; exact h1, h2⟩
        · refine .inr ⟨b, vs, fr, by rw [hle.root _ q1]; exact h1, h2, h3, h4, fun p row hp => ⟨(h5 p row hp).1, fun j c hj => ?_⟩⟩
          obtain ⟨y, hy, hyc⟩ := (h5 p row hp).2 j c hj
          refine ⟨y, hy, ?_⟩
          cases c with
          | v z => exact hyc
          | s e2 E2 vals =>
            obtain ⟨f1, f2⟩ := hyc
            refine ⟨by rw [hle.sub _ _ _ q2]; exact f1, ?_⟩
            rcases f2 with ⟨n1, n2⟩ | ⟨b', vs', fr', n1, n2⟩
            · exact .inl ⟨by rw [hle.sub _ _ _ q2]; exact n1, n2⟩
            · exact .inr ⟨b', vs', fr', by rw [hle.sub _ _ _ q2]; exact n1, n2⟩
  · rcases frT_look ht d with h1 | ⟨h1, h2⟩
    · refine ⟨fun _ => ?_, fun hc => ?_⟩
      · show Ok _ (look (true, .bad) t' d).2 _
        rw [h1]; exact ok_bad
      · have : (look (true, .bad) t' d).1 = false := hc
        rw [h1] at this; simp at this
    · refine ⟨fun hc => fr_ok hle _ _ h2 ?_, fun hc => ?_⟩
      · have := (hs.tmps d).1
        show Ok m (look (true, .bad) t' d).2 _
        rw [h1]; exact this (by rw [← h1]; exact hc)
      · have := (hs.tmps d).2
        exact this (by rw [← h1]; exact hc)


theorem look_setH_ne {h : Heap} {k k' : Nat} {c : Chunk} (hne : k' ≠ k) : look? (setH h k c) k' = look? h k' := by rw [look_setH, if_neg hne]
theorem look_setH_eq {h : Heap} {k : Nat} {c c0 : Chunk} (h0 : look? h k = some c0) : look? (setH h k c) k = some c := by rw [look_setH, if_pos rfl, h0]; rfl
theorem nestR_congr {h h' : Heap} : ∀ {xs : List AV} {cs : List Cell} {ks : List Nat}, (∀ q ∈ ks, look? h' q = look? h q) → nestR h xs cs ks → nestR h' xs cs ks
  | [], [], [], _, hn => by simp only [nestR]
  | .v z :: xs, .v z' :: cs, ks, hq, hn => by
    simp only [nestR] at hn ⊢
    exact ⟨hn.1, nestR_congr hq hn.2⟩
  | .sl q E lo n :: xs, .s e E' vals :: cs, q' :: ks, hq, hn => by
    simp only [nestR] at hn ⊢
    obtain ⟨rfl, h2, h3, h4, h5, h6⟩ := hn
    exact ⟨rfl, h2, h3, h4, by rw [hq _ (by simp)]; exact h5, nestR_congr (fun q hm => hq q (by simp [hm])) h6⟩
theorem frH_congr {ks : List Nat} {k : Nat} {h h2 : Heap} (hq : ∀ q, q ≠ k → look? h2 q = look? h q) : ∀ {h' : Heap}, frH ks k h h' → frH ks k h2 h'
  | [], _ => by simp only [frH]
  | (q, c) :: r, hh => by
    simp only [frH] at hh ⊢
    obtain ⟨h1, h2', h3, h4, h5⟩ := hh
    exact ⟨h1, h2', h3, by rw [hq q h2']; exact h4, frH_congr hq h5⟩
theorem setL_all {α : Type} : ∀ (vs xs : List α), xs.length = vs.length → setL xs 0 vs = vs := by
  intro vs xs h
  apply List.ext_getElem?
  intro i
  rw [setL_get _ _ _ _ (by omega)]
  by_cases hi : i < vs.length
  · rw [if_pos ⟨Nat.zero_le _, by omega⟩, Nat.sub_zero]
  · rw [if_neg (by omega), List.getElem?_eq_none (by omega), List.getElem?_eq_none (by omega)]

theorem V_store_none {all r : List Oper} {d : Option Tmp} {ty : TypeId} {ps : String} {af : Array Edge} {g : Option (Nat × Bool)} {S : List Fr} {s : St} {t : TypeId} {p x : Operand} (hb : nestS s.h (s.ev p).2 (s.ev x).2 = true) : V P K (.ops false all (⟨d, .store t p x, ty, ps, af, g⟩ :: r) :: S) s = Good P K (.ops false all (⟨d, .store t p x, ty, ps, af, g⟩ :: r) :: S) s := by
  rw [V_ops]; simp only [pureOp, memOp, newOp, hb, Bool.false_eq_true, if_false, if_true]
theorem V_append_none {all r : List Oper} {d : Option Tmp} {ty : TypeId} {ps : String} {af : Array Edge} {g : Option (Nat × Bool)} {S : List Fr} {s : St} {t t2 : TypeId} {x y : Operand} (hb : nestA s.h (s.ev y).2 = true) : V P K (.ops false all (⟨d, .call ⟨.builtin .append, ⟨[x, y]⟩, ⟨[t, t2]⟩⟩, ty, ps, af, g⟩ :: r) :: S) s = Good P K (.ops false all (⟨d, .call ⟨.builtin .append, ⟨[x, y]⟩, ⟨[t, t2]⟩⟩, ty, ps, af, g⟩ :: r) :: S) s := by
  rw [V_ops]; simp only [pureOp, memOp, newOp, hb, Bool.false_eq_true, if_false, if_true]

/-- A struct that holds own slices is stored into a row. -/
theorem V_storeN (hm : P.follows .mixedOrders = true) {all r : List Oper} {ty : TypeId} {ps : String} {af : Array Edge} {g : Option (Nat × Bool)} {S : List Fr} {s : St} {t : TypeId} {p x : Operand} {k i e E : Nat} {rows : List (List Cell)} {cells : List AV} (row' : List Cell) (ks : List Nat) (t' : List (Nat × Bool × AV)) (h' : Heap)
    (hb : nestS s.h (s.ev p).2 (s.ev x).2 = true)
    (hG : s.gOk all g ∧ s.G all g = true ∧ s.ev p = (true, .ptr k E i 0) ∧ s.ev x = (true, .agg cells) ∧ szT P t = some cells.length ∧ look? s.h k = some (.row e E rows) ∧ i < rows.length ∧ cells.length = (rows.getD i []).length ∧ (∀ y ∈ cells, oneP y))
    (hN : nestR s.h cells row' ks ∧ k ∉ ks ∧ frT ks k s.t t' ∧ frH ks k s.h h') (hnd : ks.Nodup) (hw : wfS S)
    (hr : V P K (.ops false all r :: S) ⟨t', (k, .row e E (rows.set i row')) :: h', s.nk, s.N⟩) : V P K (.ops false all (⟨none, .store t p x, ty, ps, af, g⟩ :: r) :: S) s := by
  obtain ⟨hg, hGt, g1, g2, g3, g4, g5, g6, g7⟩ := hG
  obtain ⟨n1, n2, n3, n4⟩ := hN
  have hgd := V_good hm (S := .ops false all r :: S) (by simpa only [wfT] using hw) hr
  rw [V_store_none hb]
  refine good_of_den (by simp) fun B Q hQ m a w hs => ?_
  have hwt := wanted_eq hs all.toArray (⟨none, .store t p x, ty, ps, af, g⟩ : Oper) (by simpa using hg)
  rw [List.toList_toArray, hGt] at hwt
  simp only [den, Exit.then]
  unfold wpList
  rw [if_pos hwt]
  refine .inl ?_
  have hp := ev_ok hs p (by rw [g1])
  have hx := ev_ok hs x (by rw [g2])
  rw [g1] at hp
  rw [g2] at hx
  have hx2 := hx
  simp only [Ok] at hx
  obtain ⟨us, hus, hok⟩ := hx
  have hlen := hok.length
  have hone := (cells_ok hx2 (show cellsP (.agg cells) from g7)).2
  have hx3 : Ok m (.agg (us.map .v)) (a.eval x) := by
    simp only [Ok]; exact ⟨us, hus, Oks.vs us⟩
  have hst : storeP P s.h t (.ptr k E i 0) (.agg (us.map .v)) := by
    refine ⟨fun y hy => ?_, by simp only [boxCells, List.length_map]; rw [hlen]; exact g3, ?_⟩
    · obtain ⟨u, hu, rfl⟩ := List.mem_map.1 hy
      have := hone u (by rw [hus]; simpa [Value.cells] using hu)
      cases u <;> simp only [oneP] <;> simp [Value.oneCell'] at this
    · simp only [g4, boxCells, List.length_map]
      exact ⟨by simp [flatOk, boxCells, isV], trivial, g5, by rw [hlen, g6]; omega⟩
  obtain ⟨w', h1, h2⟩ := store_run hs hp hx3 hst
  have hH : storeH s.h (.ptr k E i 0) (.agg (us.map .v)) = setH s.h k (.row e E (rows.set i (us.map Cell.v))) := by
    simp only [storeH, g4, boxCells]
    rw [setL_all _ _ (by simp only [List.length_map]; rw [hlen, g6])]
    simp only [List.map_map]
    rfl
  rw [hH] at h2
  have hq : ∀ q, q ≠ k → look? (setH s.h k (.row e E (rows.set i (us.map Cell.v)))) q = look? s.h q := fun q hne => look_setH_ne hne
  have habs := h2.absorb (i := i) (look_setH_eq g4) (by rw [List.getElem?_set]; simp [g5]) hok (nestR_congr (fun q hm => hq q (fun he => n2 (by rw [← he]; exact hm))) n1) hnd n2 t' h' n3 (frH_congr hq n4)
  rw [List.set_set] at habs
  unfold Oper.wp
  have hex : (execOp a.eval (⟨none, .store t p x, ty, ps, af, g⟩ : Oper)).run P w = .ok .skip w' := by simp [execOp, h1]
  rw [hex]
  have := hgd.use hQ (by simp) habs
  simp only [den, Exit.then] at this
  exact this

theorem fr_kill {ks : List Nat} {k : Nat} : ∀ (x : AV), AV.fr (k :: ks) k x → kill k x = x ∧ AV.fr ks k x := by
  intro x
  induction x using AV.rec (motive_2 := fun xs => frL (k :: ks) k xs → kills k xs = xs ∧ frL ks k xs) with
  | v | rd | rp | bad => intro _; simp only [kill, AV.fr, and_self]
  | sl q E lo n =>
    intro h; simp only [AV.fr, List.mem_cons, not_or] at h
    simp only [kill, if_neg h.1, AV.fr, true_and]; exact h.2
  | ptr q E i j =>
    intro h; simp only [AV.fr, List.mem_cons, not_or] at h
    simp only [kill, if_neg h.1, AV.fr, true_and]; exact h.2
  | sub => intro h; simp only [AV.fr] at h; simp only [kill, AV.fr, true_and]; exact h
  | subp => intro h; simp only [AV.fr] at h; simp only [kill, AV.fr, true_and]; exact h
  | agg xs ih => intro h; simp only [AV.fr] at h; obtain ⟨h1, h2⟩ := ih h; simp only [kill, AV.fr, h1, true_and]; exact h2
  | tup xs ih => intro h; simp only [AV.fr] at h; obtain ⟨h1, h2⟩ := ih h; simp only [kill, AV.fr, h1, true_and]; exact h2
  | fn f xs ih => intro h; simp only [AV.fr] at h; obtain ⟨h1, h2⟩ := ih h; simp only [kill, AV.fr, h1, true_and]; exact h2
  | rq xs j ih => intro h; simp only [AV.fr] at h; obtain ⟨h1, h2⟩ := ih h; simp only [kill, AV.fr, h1, true_and]; exact h2
  | nil => simp only [kills, frL, and_self]
  | cons x xs ih1 ih2 => rename_i h; simp only [frL] at h; obtain ⟨h1, h2⟩ := ih1 h.1; obtain ⟨h3, h4⟩ := ih2 h.2; simp only [kills, frL, h1, h3, true_and]; exact ⟨h2, h4⟩
theorem fr_kills {ks : List Nat} {k : Nat} : ∀ (xs : List AV), frL (k :: ks) k xs → kills k xs = xs ∧ frL ks k xs
  | [], _ => by simp only [kills, frL, and_self]
  | x :: xs, h => by
    simp only [frL] at h; obtain ⟨h1, h2⟩ := fr_kill x h.1; obtain ⟨h3, h4⟩ := fr_kills xs h.2; simp only [kills, frL, h1, h3, true_and]; exact ⟨h2, h4⟩
theorem frT_kill {ks : List Nat} {k : Nat} {t : List (Nat × Bool × AV)} : ∀ {t' : List (Nat × Bool × AV)}, frT (k :: ks) k t t' → frT ks k (killT k t) t'
  | [], _ => by simp only [frT]
  | (d, c, x) :: r, h => by
    simp only [frT] at h ⊢
    obtain ⟨h1, h2, h3⟩ := h
    obtain ⟨g1, g2⟩ := fr_kill x h1
    exact ⟨g2, by rw [look_killT, h2, g1], frT_kill h3⟩
theorem frC_kill {ks : List Nat} {k : Nat} {c : Chunk} (h : frC (k :: ks) k c) : killC k c = c ∧ frC ks k c := by
  cases c with
  | box e cells => obtain ⟨h1, h2⟩ := fr_kills cells h; exact ⟨by simp only [killC, h1], h2⟩
  | fact xs us => obtain ⟨h1, h2⟩ := fr_kills xs h; exact ⟨by simp only [killC, h1], h2⟩
  | row => exact ⟨rfl, trivial⟩
  | pin q ob z =>
    have h : q ∉ k :: ks := h
    simp only [List.mem_cons, not_or] at h
    exact ⟨by simp only [killC, if_neg h.1], h.2⟩
theorem frH_kill {ks : List Nat} {k : Nat} {h h2 : Heap} (hq : ∀ q c, q ≠ k → killC k c = c → look? h q = some c → look? h2 q = some c) : ∀ {h' : Heap}, frH (k :: ks) k h h' → frH ks k h2 h'
  | [], _ => by simp only [frH]
  | (q, c) :: r, hh => by
    simp only [frH, List.mem_cons, not_or] at hh ⊢
    obtain ⟨⟨h0, h1⟩, h2', h3, h4, h5⟩ := hh
    obtain ⟨g1, g2⟩ := frC_kill h3
    exact ⟨h1, h2', g2, hq q c h2' g1 h4, frH_kill hq h5⟩
theorem nestR_kills {h : Heap} {k : Nat} : ∀ {xs : List AV} {cs : List Cell} {ks : List Nat}, nestR h xs cs ks → k ∉ ks → kills k xs = xs
  | [], [], [], _, _ => by simp only [kills]
  | .v z :: xs, .v z' :: cs, ks, hn, hk => by
    simp only [nestR] at hn
    simp only [kills, kill, nestR_kills hn.2 hk]
  | .sl q E lo n :: xs, .s e E' vals :: cs, q' :: ks, hn, hk => by
    simp only [nestR] at hn
    obtain ⟨rfl, _, _, _, _, hn⟩ := hn
    simp only [List.mem_cons, not_or] at hk
    simp only [kills, kill, nestR_kills hn hk.2, if_neg (Ne.symm hk.1)]

theorem nestR_nk {h : Heap} {nk : Nat} : ∀ {xs : List AV} {cs : List Cell} {ks : List Nat}, nestR h xs cs ks → keysLt nk h → nk ∉ ks
  | [], [], [], _, _ => by simp
  | .v z :: xs, .v z' :: cs, ks, hn, hk => by
    simp only [nestR] at hn
    exact nestR_nk hn.2 hk
  | .sl q E lo n :: xs, .s e E' vals :: cs, q' :: ks, hn, hk => by
    simp only [nestR] at hn
    obtain ⟨rfl, _, _, _, h5, hn⟩ := hn
    have := keysLt_look hk h5
    simp only [List.mem_cons, not_or]
    exact ⟨by omega, nestR_nk hn hk⟩
theorem fr_sub {ks ks' : List Nat} {k : Nat} (hs : ∀ q ∈ ks', q ∈ ks) : ∀ (x : AV), AV.fr ks k x → AV.fr ks' k x := by
  intro x
  induction x using AV.rec (motive_2 := fun xs => frL ks k xs → frL ks' k xs) with
  | v | rd | rp | bad => intro _; simp only [AV.fr]
  | sl q E lo n => intro h; simp only [AV.fr] at h ⊢; exact fun hq => h (hs q hq)
  | ptr q E i j => intro h; simp only [AV.fr] at h ⊢; exact fun hq => h (hs q hq)
  | sub => intro h; simp only [AV.fr] at h ⊢; exact h
  | subp => intro h; simp only [AV.fr] at h ⊢; exact h
  | agg xs ih => intro h; simp only [AV.fr] at h ⊢; exact ih h
  | tup xs ih => intro h; simp only [AV.fr] at h ⊢; exact ih h
  | fn f xs ih => intro h; simp only [AV.fr] at h ⊢; exact ih h
  | rq xs j ih => intro h; simp only [AV.fr] at h ⊢; exact ih h
  | nil => simp only [frL]
  | cons x xs ih1 ih2 => rename_i h; simp only [frL] at h ⊢; exact ⟨ih1 h.1, ih2 h.2⟩
theorem frL_sub {ks ks' : List Nat} {k : Nat} (hs : ∀ q ∈ ks', q ∈ ks) : ∀ (xs : List AV), frL ks k xs → frL ks' k xs
  | [], _ => by simp only [frL]
  | x :: xs, h => by simp only [frL] at h ⊢; exact ⟨fr_sub hs x h.1, frL_sub hs xs h.2⟩
theorem frC_sub {ks ks' : List Nat} {k : Nat} (hs : ∀ q ∈ ks', q ∈ ks) {c : Chunk} (h : frC ks k c) : frC ks' k c := by
  cases c with
  | box e cs => exact frL_sub hs _ h
  | fact xs us => exact frL_sub hs _ h
  | row => trivial
  | pin q ob z => exact fun hq => h (hs q hq)
theorem frH_map {ks ks' : List Nat} {k : Nat} {h h2 : Heap} (hm : ∀ q c, q ∉ ks → q ≠ k → frC ks k c → look? h q = some c → q ∉ ks' ∧ look? h2 q = some c ∧ frC ks' k c) : ∀ {h' : Heap}, frH ks k h h' → frH ks' k h2 h'
  | [], _ => by simp only [frH]
  | (q, c) :: r, hh => by
    simp only [frH] at hh ⊢
    obtain ⟨h1, h2', h3, h4, h5⟩ := hh
    obtain ⟨g1, g2, g3⟩ := hm q c h1 h2' h3 h4
    exact ⟨g1, h2', g3, g2, frH_map hm h5⟩

/-- A struct that holds own slices is appended to a row. -/
theorem V_appN (hm : P.follows .mixedOrders = true) {all r : List Oper} {d : Option Tmp} {ty : TypeId} {ps : String} {af : Array Edge} {g : Option (Nat × Bool)} {S : List Fr} {s : St} {t : TypeId} {x y : Operand} {k k2 n e E e2 : Nat} {rows : List (List Cell)} {cells : List AV} (row' : List Cell) (ks : List Nat) (t' : List (Nat × Bool × AV)) (h' : Heap)
    (hb : nestA s.h (s.ev y).2 = true)
    (hG : s.gOk all g ∧ s.G all g = true ∧ dstN s d ∧ s.ev x = (true, .sl k E 0 n) ∧ s.ev y = (true, .sl k2 E 0 1) ∧ look? s.h k = some (.row e E rows) ∧ look? s.h k2 = some (.box e2 cells) ∧ n ≤ rows.length ∧ cells.length = E ∧ k < s.nk ∧ k2 < s.nk ∧ k2 ≠ k ∧ (∀ y ∈ cells, oneP y))
    (hT : (slT P t).isSome = true ∧ 0 < appE P t ∧ (zeroT P (appT P t)).isSome = true ∧ (zcells P (appT P t)).length = appE P t ∧ ((P.info? (appT P t)).map (·.bytes)).getD 1000 ≤ 256 ∧ E = appE P t ∧ e = appT P t ∧ n + 1 ≤ 549755813888)
    (hN : nestR s.h cells row' ks ∧ k ∉ ks ∧ k2 ∉ ks ∧ frT (k :: ks) k s.t t' ∧ frH (k2 :: k :: ks) k s.h h' ∧ keysLt s.nk s.h) (hnd : ks.Nodup) (hw : wfS S)
    (hr : V P K (.ops false all r :: S) (St.putO ⟨t', (k, .row e E (rows.take n ++ [row'])) :: h', s.nk, s.N⟩ d true (.sl k E 0 (n + 1)))) : V P K (.ops false all (⟨d, .call ⟨.builtin .append, ⟨[x, y]⟩, ⟨[t, t]⟩⟩, ty, ps, af, g⟩ :: r) :: S) s := by
  obtain ⟨hg, hGt, hd, g1, g2, g3, g4, g5, g6, g7, g8, g9, g10⟩ := hG
  obtain ⟨t1, t2, t3, t4, t5, t6, t7, t8⟩ := hT
  obtain ⟨n1, n2, n3, n5, n6, g11⟩ := hN
  have n4 : s.nk ∉ ks := fun h => nestR_nk n1 g11 h
  have hgd := V_good hm (S := .ops false all r :: S) (by simpa only [wfT] using hw) hr
  rw [V_append_none hb]
  refine good_of_den (by simp) fun B Q hQ m a w hs => ?_
  have hwt := wanted_eq hs all.toArray (⟨d, .call ⟨.builtin .append, ⟨[x, y]⟩, ⟨[t, t]⟩⟩, ty, ps, af, g⟩ : Oper) (by simpa using hg)
  rw [List.toList_toArray, hGt] at hwt
  simp only [den, Exit.then]
  unfold wpList
  rw [if_pos hwt]
  refine .inl ?_
  obtain ⟨b, vs, fr, c1, c2, c3, c4⟩ := hs.core.chunk k2 _ g4
  have hlen := c4.length
  have hone : ∀ v ∈ vs.toList, v.oneCell' = true := fun v hv => by
    obtain ⟨j, hj, rfl⟩ := List.getElem_of_mem hv
    obtain ⟨u, hu, hok⟩ := c4.get (show cells[j]? = some (cells[j]'(by omega)) by simp)
    have := (one_ok hok (g10 _ (by simp))).1
    have e1 : vs.toList[j]? = some vs.toList[j] := by simp [hj]
    rw [e1] at hu; simp only [Option.some.injEq] at hu; rw [hu]; exact this
  -- the struct's cells, by their values
  let s1 : St := ⟨s.t, (s.nk, .fact cells vs.toList) :: setH s.h k2 (.row e2 E [vs.toList.map Cell.v]), s.nk, s.N⟩
  have hk1 : ∀ q c, look? s1.h q = some c → (q = s.nk ∧ c = .fact cells vs.toList) ∨ (q ≠ s.nk ∧ look? (setH s.h k2 (.row e2 E [vs.toList.map Cell.v])) q = some c) := fun q c hq => by
    simp only [s1, look?] at hq
    split at hq
    · rename_i he; simp only [Option.some.injEq] at hq; exact .inl ⟨he.symm, hq.symm⟩
    · rename_i he; exact .inr ⟨Ne.symm he, hq⟩
  have hlk : ∀ q, q ≠ s.nk → look? s1.h q = look? (setH s.h k2 (.row e2 E [vs.toList.map Cell.v])) q := fun q hq => by
    simp only [s1, look?]; rw [if_neg (Ne.symm hq)]
  have hs1 : Sat B m s1 a w := by
    refine ⟨hs.defers, hs.size, hs.r, ⟨hs.core.inj, hs.core.lt, hs.core.z, hs.core.ro, hs.core.new, fun q c hq => ?_⟩, hs.own, hs.frm, hs.tmps⟩
    rcases hk1 q c hq with ⟨rfl, rfl⟩ | ⟨hne, hq⟩
    · exact c4
    · by_cases hq2 : q = k2
      · subst hq2
        rw [look_setH_eq g4] at hq
        simp only [Option.some.injEq] at hq; subst hq
        refine .inr ⟨b, vs, fr, c1, c2, c3, by simp; rw [← g6, ← hlen]; simp, fun i row hi => ?_⟩
        cases i with
        | zero =>
          simp only [List.getElem?_cons_zero, Option.some.injEq] at hi; subst hi
          refine ⟨by simp; rw [← g6, ← hlen]; simp, fun j c hj => ?_⟩
          simp only [List.getElem?_map, Option.map_eq_some_iff] at hj
          obtain ⟨u, hu, rfl⟩ := hj
          exact ⟨u, by simpa using hu, rfl⟩
        | succ i => simp at hi
      · rw [look_setH_ne hq2] at hq
        exact hs.core.chunk q c hq
  have hx := ev_ok hs1 x (by show (s.ev x).1 = true; rw [g1])
  have hy := ev_ok hs1 y (by show (s.ev y).1 = true; rw [g2])
  have e1 : s1.ev x = (true, .sl k E 0 n) := g1
  have e2' : s1.ev y = (true, .sl k2 E 0 1) := g2
  rw [e1] at hx
  rw [e2'] at hy
  have lk2 : look? s1.h k2 = some (.row e2 E [vs.toList.map Cell.v]) := by rw [hlk _ (by omega)]; exact look_setH_eq g4
  have lk : look? s1.h k = some (.row e E rows) := by rw [hlk _ (by omega), look_setH_ne (Ne.symm g9)]; exact g3
  have hrows : rowsAV s1.h (.sl k2 E 0 1) = some [vs.toList.map Cell.v] := by simp [rowsAV, lk2]
  have hflat : flatRow (vs.toList.map Cell.v) := by
    have : ∀ (l : List Value), (∀ v ∈ l, v.oneCell' = true) → flatRow (l.map Cell.v) := by
      intro l
      induction l with
      | nil => intro _; simp only [List.map_nil, flatRow]
      | cons v l ih => intro h; simp only [List.map_cons, flatRow]; exact ⟨h v (by simp), ih fun v hv => h v (by simp [hv])⟩
    exact this _ hone
  have happ : appP P t t s1.h s1.nk (.sl k E 0 n) (.sl k2 E 0 1) := by
    refine ⟨t1, rfl, t2, t3, t4, t5, by rw [hrows]; rfl, by rw [hrows]; rfl, ?_, by rw [hrows]; intro q hq; simp at hq; subst hq; exact hflat, by simpa [lenAV] using t8, ?_⟩
    · rw [← t6]; simp only [eszAV]
    · refine ⟨rfl, t6, g7, ?_⟩
      rw [lk]
      exact ⟨t7, rfl, g5⟩
  obtain ⟨z, w', m', p1, p2, p3⟩ := app_run (ty := ty) hs1 hx hy happ
  have hS : appS P t s1 (.sl k E 0 n) (.sl k2 E 0 1) = (⟨killT k s.t, setH (killH k s1.h) k (.row e E (rows.take n ++ [vs.toList.map Cell.v])), s.nk, s.N⟩, .sl k E 0 (n + 1)) := by
    simp only [appS, lk, hrows, Option.getD_some, lenAV]; rfl
  rw [hS] at p2 p3
  dsimp only at p2 p3
  have hlook : ∀ q c, q ≠ k → killC k c = c → look? s1.h q = some c → look? (setH (killH k s1.h) k (.row e E (rows.take n ++ [vs.toList.map Cell.v]))) q = some c := fun q c hq hc hl => by
    rw [look_setH_ne hq, look_killH, hl, Option.map_some, hc]
  have hcells : Oks m' cells vs.toList := by
    have := p3.core.chunk s.nk (.fact cells vs.toList) (hlook _ _ (by omega) (by simp only [killC, nestR_kills n1 n2]) (by simp only [s1, look?, if_true]))
    exact this
  have hs1k : ∀ q ∈ ks, look? s1.h q = look? s.h q := fun q hq => by
    rw [hlk q (fun he => n4 (by rw [← he]; exact hq)), look_setH_ne (fun he => n3 (by rw [← he]; exact hq))]
  have hnest : nestR (setH (killH k s1.h) k (.row e E (rows.take n ++ [vs.toList.map Cell.v]))) cells row' ks := by
    refine nestR_congr (h := s.h) (fun q hq => ?_) n1
    have hqk : q ≠ k := fun he => n2 (by rw [← he]; exact hq)
    obtain ⟨_, hm1, _⟩ := nestR_spec n1
    rw [look_setH_ne hqk, look_killH, hs1k q hq]
    cases hlq : look? s.h q with
    | none => rfl
    | some c =>
      have : killC k c = c := by
        have hrow : ∀ {xs : List AV} {cs : List Cell} {ks : List Nat}, nestR s.h xs cs ks → q ∈ ks → ∃ e E rws, look? s.h q = some (.row e E rws) := by
          intro xs
          induction xs with
          | nil => intro cs ks hn hq; cases cs <;> cases ks <;> simp [nestR] at hn; simp at hq
          | cons x xs ih =>
            intro cs ks hn hq
            cases x with
            | v z =>
              cases cs with
              | nil => simp [nestR] at hn
              | cons c cs => cases c with
                | v z' => simp only [nestR] at hn; exact ih hn.2 hq
                | s => simp [nestR] at hn
            | sl q0 E0 lo n0 =>
              cases cs with
              | nil => simp [nestR] at hn
              | cons c cs => cases c with
                | v z' => simp [nestR] at hn
                | s e0 E1 vals =>
                  cases ks with
                  | nil => simp [nestR] at hn
                  | cons q1 ks =>
                    simp only [nestR] at hn
                    obtain ⟨rfl, _, _, _, h5, h6⟩ := hn
                    rcases List.mem_cons.1 hq with rfl | hq
                    · exact ⟨_, _, _, h5⟩
                    · exact ih h6 hq
            | _ => simp [nestR] at hn
        obtain ⟨e0, E0, rws, hrr⟩ := hrow n1 hq
        rw [hlq] at hrr; simp only [Option.some.injEq] at hrr; subst hrr; rfl
      rw [Option.map_some, this]
  have hfrH : frH ks k (setH (killH k s1.h) k (.row e E (rows.take n ++ [vs.toList.map Cell.v]))) h' := by
    refine frH_map (fun q c hq hqk hc hl => ?_) n6
    simp only [List.mem_cons, not_or] at hq
    have hc1 : frC (k :: ks) k c := frC_sub (fun q hq => List.mem_cons_of_mem _ hq) hc
    obtain ⟨f1, f2⟩ := frC_kill hc1
    have hqn : q < s.nk := keysLt_look g11 hl
    exact ⟨hq.2.2, hlook q c hqk f1 (by rw [hlk q (by omega), look_setH_ne hq.1]; exact hl), f2⟩
  have hsz : (rows.take n).length = n := by simp; omega
  have habs := p3.absorb (k := k) (i := n) (cells := cells) (row' := row') (ks := ks) (us := vs.toList) (look_setH_eq (c0 := .row e E rows) (by rw [look_killH, lk]; rfl)) (by rw [List.getElem?_append_right (by omega), hsz]; simp) hcells hnest hnd n2 t' h' (frT_kill n5) hfrH
  have hset : (rows.take n ++ [vs.toList.map Cell.v]).set n row' = rows.take n ++ [row'] := by
    rw [List.set_append_right _ _ (by omega), hsz]; simp
  rw [hset] at habs
  have hz : Ok (m'.nest k n cells ks) (.sl k E 0 (n + 1)) z := by
    simp only [Ok] at p2 ⊢
    simp only [Mem.nest, if_neg n2]
    exact p2
  have hd' : dstN ⟨t', (k, .row e E (rows.take n ++ [row'])) :: h', s.nk, s.N⟩ d := by cases d <;> exact hd
  have hput := putO_sat (c := true) habs hd' (fun _ => hz) (fun hc => by simp at hc)
  unfold Oper.wp
  have hex : (execOp a.eval (⟨d, .call ⟨.builtin .append, ⟨[x, y]⟩, ⟨[t, t]⟩⟩, ty, ps, af, g⟩ : Oper)).run P w = .ok (.value z) w' := run_builtin rfl fun cs => run_v p1
  rw [hex]
  have := hgd.use hQ (by simp) hput
  simp only [den, Exit.then] at this
  exact this

/-- An append of such a struct to a nil slice: the nil slice is seen as an own one first. -/
theorem V_ownA (hm : P.follows .mixedOrders = true) {all r : List Oper} {d : Option Tmp} {ty : TypeId} {ps : String} {af : Array Edge} {g : Option (Nat × Bool)} {S : List Fr} {s : St} {t t2 : TypeId} {x y : Operand} (d0 e E : Nat)
    (hb : nestA s.h (s.ev y).2 = true) (hd : look (true, .bad) s.t d0 = (true, .v (.slice none 0 0))) (hw : wfS S)
    (hr : V P K (.ops false all (⟨d, .call ⟨.builtin .append, ⟨[x, y]⟩, ⟨[t, t2]⟩⟩, ty, ps, af, g⟩ :: r) :: S) ⟨(d0, true, .sl s.nk E 0 0) :: s.t, (s.nk, .row e E []) :: s.h, s.nk + 1, s.N⟩) :
    V P K (.ops false all (⟨d, .call ⟨.builtin .append, ⟨[x, y]⟩, ⟨[t, t2]⟩⟩, ty, ps, af, g⟩ :: r) :: S) s := by
  have hgd := V_good hm (by simpa only [wfT] using hw) hr
  rw [V_append_none hb]
  exact hgd.weak (weak_own e E hd) (by simp only [okS])

/-- A slice in a box that is nil is an own slice without elements. -/
theorem weak_ownB {s : St} {k j e0 : Nat} {cells : List AV} (e E : Nat) (hk : look? s.h k = some (.box e0 cells)) (hj : cells[j]? = some (.v (.slice none 0 0))) (hkn : k < s.nk) :
    Weak s ⟨s.t, (k, .box e0 (cells.set j (.sl s.nk E 0 0))) :: (s.nk, .row e E []) :: s.h, s.nk + 1, s.N⟩ := by
  intro B m a w hs
  have hnew := hs.core.new s.nk (Nat.le_refl _)
  refine ⟨m, hs.defers, hs.size, hs.r, ⟨hs.core.inj, hs.core.lt, hs.core.z, hs.core.ro, fun q hq => hs.core.new q (by have : s.nk + 1 ≤ q := hq; omega), fun q c hq => ?_⟩, hs.own, hs.frm, hs.tmps⟩
  simp only [look?] at hq
  split at hq
  · rename_i he; subst he
    simp only [Option.some.injEq] at hq; subst hq
    obtain ⟨b, vs, fr, h1, h2, h3, h4⟩ := hs.core.chunk k _ hk
    refine ⟨b, vs, fr, h1, h2, h3, Oks.of_get (by rw [h4.length]; simp) fun i x u hx hu => ?_⟩
    rw [List.getElem?_set] at hx
    split at hx
    · rename_i hji; subst hji
      split at hx
      · simp only [Option.some.injEq] at hx; subst hx
        obtain ⟨u', hu', hok⟩ := h4.get hj
        rw [hu] at hu'; simp only [Option.some.injEq] at hu'; subst hu'
        rw [ok_v] at hok; subst hok
        simp only [Ok]
        exact ⟨none, 0, rfl, Nat.le_refl _, .inr ⟨rfl, rfl⟩⟩
      · cases hx
    · obtain ⟨u', hu', hok⟩ := h4.get hx
      rw [hu] at hu'; simp only [Option.some.injEq] at hu'; subst hu'
      exact hok
  · split at hq
    · rename_i he; subst he
      simp only [Option.some.injEq] at hq; subst hq
      exact .inl ⟨hnew.1, rfl⟩
    · exact hs.core.chunk q c hq

/-! ### A call that writes into a nested slice -/
mutual
def AV.rs (k i j : Nat) : AV → AV
  | .sl _ E lo n => .sub k i j E lo n
  | .agg xs => .agg (rsL k i j xs)
  | .v x => .v x
  | .rd E rows => .rd E rows
  | .rp row j => .rp row j
  | .ptr .. => .bad
  | .sub .. => .bad
  | .subp .. => .bad
  | .tup _ => .bad
  | .fn _ _ => .bad
  | .rq _ _ => .bad
  | .bad => .bad
def rsL (k i j : Nat) : List AV → List AV
  | [] => []
  | x :: xs => AV.rs k i j x :: rsL k i j xs
end
mutual
theorem rs_ok {m m0 : Mem} {k i j : Nat} (hr : m0.r = m.r) (hz : m0.z = m.z) (hb : m0.b (.root 0) = m.b (.sub k i j)) : ∀ (x : AV) (u : Value), AV.reP x → AV.lt 1 x → Ok m (x.rs k i j) u → Ok m0 x u
  | .sl q E lo n, u, _, hl, h => by
    simp only [AV.lt] at hl
    have : q = 0 := by omega
    subst this
    simp only [AV.rs, Ok] at h ⊢; rw [hz, hb]; exact h
  | .agg xs, u, hp, hl, h => by simp only [AV.lt] at hl; simp only [AV.reP] at hp; simp only [AV.rs, Ok] at h ⊢; obtain ⟨us, h1, h2⟩ := h; exact ⟨us, h1, rsL_ok hr hz hb xs us hp hl h2⟩
  | .v x, u, _, _, h => by simp only [AV.rs, Ok] at h ⊢; exact h
  | .rd E rows, u, _, _, h => by simp only [AV.rs, Ok] at h ⊢; rw [hr]; exact h
  | .rp row j, u, _, _, h => by simp only [AV.rs, Ok] at h ⊢; rw [hr]; exact h
  | .ptr .., u, hp, _, _ => by simp only [AV.reP] at hp
  | .sub .., u, hp, _, _ => by simp only [AV.reP] at hp
  | .subp .., u, hp, _, _ => by simp only [AV.reP] at hp
  | .tup _, u, hp, _, _ => by simp only [AV.reP] at hp
  | .fn _ _, u, hp, _, _ => by simp only [AV.reP] at hp
  | .rq _ _, u, hp, _, _ => by simp only [AV.reP] at hp
  | .bad, u, _, _, _ => ok_bad
theorem rsL_ok {m m0 : Mem} {k i j : Nat} (hr : m0.r = m.r) (hz : m0.z = m.z) (hb : m0.b (.root 0) = m.b (.sub k i j)) : ∀ (xs : List AV) (us : List Value), rePL xs → ltL 1 xs → Oks m (rsL k i j xs) us → Oks m0 xs us
  | [], us, _, _, h => by simp only [rsL, Oks] at h ⊢; exact h
  | x :: xs, us, hp, hl, h => by
    simp only [ltL] at hl
    simp only [rePL] at hp
    simp only [rsL, Oks] at h ⊢
    obtain ⟨u, vs, h1, h2, h3⟩ := h
    exact ⟨u, vs, h1, rs_ok hr hz hb x u hp.1 hl.1 h2, rsL_ok hr hz hb xs vs hp.2 hl.2 h3⟩
end
def rhoS (k i j : Nat) (l : Lab) : Option Lab := if l = .root 0 then some (.sub k i j) else none
def sigS (k i j : Nat) (l : Lab) : Option Lab := if l = .sub k i j then some (.root 0) else none
theorem rho_sigS (k i j : Nat) (l l' : Lab) : rhoS k i j l = some l' ↔ sigS k i j l' = some l := by
  simp only [rhoS, sigS]
  constructor
  · intro h
    split at h
    · rename_i he; subst he; simp only [Option.some.injEq] at h; subst h; simp
    · cases h
  · intro h
    split at h
    · rename_i he; subst he; simp only [Option.some.injEq] at h; subst h; simp
    · cases h

theorem V_callTs (hm : P.follows .mixedOrders = true) {all r : List Oper} {d : Option Tmp} {ty : TypeId} {ps : String} {af : Array Edge} {g : Option (Nat × Bool)} {S : List Fr} {s : St} {fo : Operand} {args : List Operand} {ts : Array TypeId}
    {f : FuncId} {cap xs : List AV} {v : Value} {e E e0 E0 : Nat} {rs rs' : List (List Value)} {rows : List (List Cell)} (k i j : Nat) (hc : Turns P f xs 1 [(0, .row e E (rs.map (·.map Cell.v)))] v [(0, .row e E (rs'.map (·.map Cell.v)))])
    (hG : s.G all g = true ∧ s.ev fo = (true, .fn f cap) ∧ evsP s args ∧ evs s args ++ cap = rsL k i j xs ∧ rePL xs ∧ ltL 1 xs ∧ look? s.h k = some (.row e0 E0 rows) ∧ i < rows.length ∧ k < s.nk) (hcell : (rows.getD i [])[j]? = some (.s e E rs)) (hlen : rs'.length = rs.length) (hg : s.gOk all g) (hd : dstN s d) (hw : wfS S)
    (hr : V P K (.ops false all r :: S) (St.putO ⟨s.t, setH s.h k (.row e0 E0 (rows.set i ((rows.getD i []).set j (.s e E rs')))), s.nk, s.N⟩ d true (.v v))) : V P K (.ops false all (⟨d, .call ⟨.value fo, ⟨args⟩, ts⟩, ty, ps, af, g⟩ :: r) :: S) s := by
  rw [V_call]
  have hgd := V_good hm (S := .ops false all r :: S) (by simpa only [wfT] using hw) hr
  refine good_of_den (by simp) fun B Q hQ m a w hs => ?_
  obtain ⟨hGt, g1, g2, g3, g4, g5, g6, g7, g8⟩ := hG
  obtain ⟨us, k1, k2⟩ := call_enter (P := P) (o := ⟨d, .call ⟨.value fo, ⟨args⟩, ts⟩, ty, ps, af, g⟩) hs rfl g1 g2 hc.enter
  have hwt := wanted_eq hs all.toArray (⟨d, .call ⟨.value fo, ⟨args⟩, ts⟩, ty, ps, af, g⟩ : Oper) (by simpa using hg)
  rw [List.toList_toArray, hGt] at hwt
  simp only [den, Exit.then]
  unfold wpList
  rw [if_pos hwt]
  refine .inl ?_
  unfold Oper.wp
  rw [k2 w, Oper.upon_enter]
  have hrs := rho_sigS k i j
  have hrow : rows[i]? = some (rows.getD i []) := by simp [List.getD_eq_getElem?_getD, g7]
  rcases hs.core.chunk k _ g6 with ⟨_, h0⟩ | ⟨b, vs, fr, h1, h2, h3, h4, h5⟩
  · subst h0; simp at g7
  obtain ⟨y0, hy0, hc0⟩ := (h5 i _ hrow).2 j _ hcell
  obtain ⟨hown0, hnest0⟩ := hc0
  have hroot : (m.rho (rhoS k i j)).b (.root 0) = m.b (.sub k i j) := by simp only [Mem.rho, rhoS, if_true, Option.bind_some]
  have hcore0 : Core (m.rho (rhoS k i j)) w [(0, .row e E (rs.map (·.map Cell.v)))] 1 := by
    refine core_rho hs.core hrs (fun q hq => ⟨?_, fun _ _ => ?_⟩) fun q c hq => ?_
    · simp only [rhoS]; rw [if_neg (by simp; omega)]
    · simp only [rhoS]; rw [if_neg (by simp)]
    · simp only [look?] at hq
      split at hq
      · rename_i he; subst he
        simp only [Option.some.injEq] at hq; subst hq
        rcases hnest0 with ⟨n1, n2⟩ | ⟨b', vs', fr', n1, n2, n3, n4, n5⟩
        · exact .inl ⟨by rw [hroot]; exact n1, by rw [n2]; rfl⟩
        · refine .inr ⟨b', vs', fr', by rw [hroot]; exact n1, n2, n3, by simpa using n4, fun p row hp => ?_⟩
          simp only [List.getElem?_map, Option.map_eq_some_iff] at hp
          obtain ⟨rw0, hrw, rfl⟩ := hp
          obtain ⟨f1, f2⟩ := n5 p rw0 hrw
          refine ⟨by simpa using f1, fun q c hq => ?_⟩
          simp only [List.getElem?_map, Option.map_eq_some_iff] at hq
          obtain ⟨x, hx, rfl⟩ := hq
          exact ⟨x, f2 q x hx, rfl⟩
      · cases hq
  rw [g3] at k1
  have hx0 := rsL_ok (m := m) (m0 := m.rho (rhoS k i j)) rfl rfl hroot xs us g4 g5 k1
  refine (hc.calls _ w us hcore0 hx0).mono fun e' w' ⟨he, hfr, m', hc', hmr, hown, hpin⟩ => ?_
  subst he
  have hnotin : ∀ l b, m.b l = some b → l ≠ .sub k i j → ¬ ∃ l0, (m.rho (rhoS k i j)).b l0 = some b := fun l b hl hno ⟨l0, hl0⟩ => by
    simp only [Mem.rho, rhoS] at hl0
    split at hl0
    · exact hno (hs.core.inj _ _ _ hl hl0)
    · cases hl0
  have hsig : ∀ l, l ≠ .sub k i j → sigS k i j l = none := fun l hl => by simp only [sigS, if_neg hl]
  have hle : m.le (m.turn (sigS k i j) m' w') := by
    refine ⟨rfl, fun l b hl => ?_, fun l b hl => ?_⟩
    · by_cases he : l = .sub k i j
      · subst he
        have := (hpin 0 b (by omega) (by rw [hroot]; exact hl)).1
        simp only [Mem.turn, sigS, if_true]; exact this
      · simp only [Mem.turn, hsig l he]; exact hl
    · show m.z b ≤ bsz w' b
      by_cases he : l = .sub k i j
      · subst he
        have := (hpin 0 b (by omega) (by rw [hroot]; exact hl)).2
        rw [← hc'.z]; exact this
      · rw [hs.core.z]
        have : bsz w' b = bsz w b := by unfold bsz; rw [hfr.block b (hs.core.lt _ _ hl) (hnotin l b hl he)]
        rw [this]; exact Nat.le_refl _
  have hkeepb : ∀ l b, m.b l = some b → l ≠ .sub k i j → w'.heap[b]? = w.heap[b]? := fun l b hl he => hfr.block b (hs.core.lt _ _ hl) (hnotin l b hl he)
  have hsame : ∀ l, l ≠ .sub k i j → (m.turn (sigS k i j) m' w').b l = m.b l := fun l he => by simp only [Mem.turn, hsig l he]
  have hat : (m.turn (sigS k i j) m' w').b (.sub k i j) = m'.b (.root 0) := by simp only [Mem.turn, sigS, if_true]
  have hs' : Sat B (m.turn (sigS k i j) m' w') ⟨s.t, setH s.h k (.row e0 E0 (rows.set i ((rows.getD i []).set j (.s e E rs')))), s.nk, s.N⟩ a w' := by
    refine hs.turned hrs hfr hc' hown (fun l' l hl => ?_) (fun q c hq => ?_) (hs.tmps.mono hle)
    · simp only [sigS] at hl
      split at hl
      · rename_i he; subst he; exact g8
      · cases hl
    · by_cases hqk : q = k
      · subst hqk
        rw [look_setH_eq g6] at hq
        simp only [Option.some.injEq] at hq; subst hq
        refine .inr ⟨b, vs, fr, by rw [hsame _ (by simp)]; exact h1, by rw [hkeepb _ _ h1 (by simp)]; exact h2, h3, by simpa using h4, fun p row hp => ?_⟩
        have keepCell : ∀ (p j' : Nat) (c : Cell) (y : Value), ¬ (p = i ∧ j' = j) → CellOk m w (.sub q p j') c y → CellOk (m.turn (sigS q i j) m' w') w' (.sub q p j') c y := by
          intro p j' c y hne hcy
          have hne' : Lab.sub q p j' ≠ .sub q i j := fun he => by simp only [Lab.sub.injEq, true_and] at he; exact hne he
          cases c with
          | v z => exact hcy
          | s e2 E2 rs2 =>
            refine ⟨hcy.1.mono (fun b hb => by rw [hsame _ hne']; exact hb) (fun b hb => hle.z _ b hb), ?_⟩
            rcases hcy.2 with ⟨n1, n2⟩ | ⟨b2, vs2, fr2, n1, n2, n3⟩
            · exact .inl ⟨by rw [hsame _ hne']; exact n1, n2⟩
            · exact .inr ⟨b2, vs2, fr2, by rw [hsame _ hne']; exact n1, by rw [hkeepb _ _ n1 hne']; exact n2, n3⟩
        rw [List.getElem?_set] at hp
        split at hp
        · rename_i hip; subst hip
          simp only [Option.some.injEq] at hp; subst hp
          obtain ⟨hl, hcs⟩ := h5 i _ hrow
          refine ⟨by simpa using hl, fun j' c hj' => ?_⟩
          rw [List.getElem?_set] at hj'
          split at hj'
          · rename_i hjj; subst hjj
            split at hj'
            · simp only [Option.some.injEq] at hj'; subst hj'
              refine ⟨y0, hy0, ?_, ?_⟩
              · rw [hlen]
                exact hown0.mono (fun b hb => hle.b _ _ hb) (fun b hb => hle.z _ b hb)
              · rcases hc'.chunk 0 (.row e E (rs'.map (·.map Cell.v))) (by simp [look?]) with ⟨n1, n2⟩ | ⟨b2, vs2, fr2, n1, n2, n3, n4, n5⟩
                · exact .inl ⟨by rw [hat]; exact n1, by simpa using n2⟩
                · refine .inr ⟨b2, vs2, fr2, by rw [hat]; exact n1, n2, n3, by simpa using n4, fun p rw0 hrw => ?_⟩
                  obtain ⟨f1, f2⟩ := n5 p (rw0.map Cell.v) (by simp [hrw])
                  refine ⟨by simpa using f1, fun q' x hx' => ?_⟩
                  obtain ⟨y', hy', hcc⟩ := f2 q' (.v x) (by simp [hx'])
                  have hcc : y' = x := hcc
                  subst hcc; exact hy'
            · cases hj'
          · rename_i hjj
            obtain ⟨y, hy, hyc⟩ := hcs j' c hj'
            exact ⟨y, hy, keepCell i j' c y (fun h => hjj h.2.symm) hyc⟩
        · rename_i hip
          obtain ⟨hl, hcs⟩ := h5 p row hp
          refine ⟨hl, fun j' c hj' => ?_⟩
          obtain ⟨y, hy, hyc⟩ := hcs j' c hj'
          exact ⟨y, hy, keepCell p j' c y (fun h => hip h.1.symm) hyc⟩
      · rw [look_setH_ne hqk] at hq
        refine (hs.core.chunk q c hq).keep hle (fun i' j' => hsame _ (fun he => by cases he; exact hqk rfl)) (hsame _ (by simp)) (fun l b hl hlk => hkeepb l b hl ?_)
        rcases hlk with rfl | ⟨i', j', rfl⟩
        · simp
        · intro he; cases he; exact hqk rfl
  have hd' : dstN ⟨s.t, setH s.h k (.row e0 E0 (rows.set i ((rows.getD i []).set j (.s e E rs')))), s.nk, s.N⟩ d := by cases d <;> exact hd
  have hput := putO_sat (c := true) (x := .v v) (u := v) hs' hd' (fun _ => ok_v.2 rfl) (fun hc => by simp at hc)
  have := hgd.use hQ (by simp) hput
  simp only [den, Exit.then] at this
  exact this


/-! ### Rules -/
theorem ns_sub (ks k i j E lo n) : AV.ns ks (.sub k i j E lo n) = (k ∉ ks) := by first | rfl | simp only [pinL, pinP, AV.ns, nsL, nsC, nsH, nsT, AV.re, reL, AV.reP, rePL, isRow, inH, rowsH, upH, delH, AV.fr, frL, frC, frT, frH, nestR, AV.rs, rsL, Chunk.lt, killC]
theorem ns_subp (ks k i j E l q) : AV.ns ks (.subp k i j E l q) = (k ∉ ks) := by first | rfl | simp only [pinL, pinP, AV.ns, nsL, nsC, nsH, nsT, AV.re, reL, AV.reP, rePL, isRow, inH, rowsH, upH, delH, AV.fr, frL, frC, frT, frH, nestR, AV.rs, rsL, Chunk.lt, killC]
theorem ns_agg (ks xs) : AV.ns ks (.agg xs) = nsL ks xs := by first | rfl | simp only [pinL, pinP, AV.ns, nsL, nsC, nsH, nsT, AV.re, reL, AV.reP, rePL, isRow, inH, rowsH, upH, delH, AV.fr, frL, frC, frT, frH, nestR, AV.rs, rsL, Chunk.lt, killC]
theorem ns_tup (ks xs) : AV.ns ks (.tup xs) = nsL ks xs := by first | rfl | simp only [pinL, pinP, AV.ns, nsL, nsC, nsH, nsT, AV.re, reL, AV.reP, rePL, isRow, inH, rowsH, upH, delH, AV.fr, frL, frC, frT, frH, nestR, AV.rs, rsL, Chunk.lt, killC]
theorem ns_fn (ks f xs) : AV.ns ks (.fn f xs) = nsL ks xs := by first | rfl | simp only [pinL, pinP, AV.ns, nsL, nsC, nsH, nsT, AV.re, reL, AV.reP, rePL, isRow, inH, rowsH, upH, delH, AV.fr, frL, frC, frT, frH, nestR, AV.rs, rsL, Chunk.lt, killC]
theorem ns_rq (ks xs j) : AV.ns ks (.rq xs j) = nsL ks xs := by first | rfl | simp only [pinL, pinP, AV.ns, nsL, nsC, nsH, nsT, AV.re, reL, AV.reP, rePL, isRow, inH, rowsH, upH, delH, AV.fr, frL, frC, frT, frH, nestR, AV.rs, rsL, Chunk.lt, killC]
theorem ns_sl (ks k E lo n) : AV.ns ks (.sl k E lo n) = True := by first | rfl | simp only [pinL, pinP, AV.ns, nsL, nsC, nsH, nsT, AV.re, reL, AV.reP, rePL, isRow, inH, rowsH, upH, delH, AV.fr, frL, frC, frT, frH, nestR, AV.rs, rsL, Chunk.lt, killC]
theorem ns_ptr (ks k E i j) : AV.ns ks (.ptr k E i j) = True := by first | rfl | simp only [pinL, pinP, AV.ns, nsL, nsC, nsH, nsT, AV.re, reL, AV.reP, rePL, isRow, inH, rowsH, upH, delH, AV.fr, frL, frC, frT, frH, nestR, AV.rs, rsL, Chunk.lt, killC]
theorem ns_v (ks x) : AV.ns ks (.v x) = True := by first | rfl | simp only [pinL, pinP, AV.ns, nsL, nsC, nsH, nsT, AV.re, reL, AV.reP, rePL, isRow, inH, rowsH, upH, delH, AV.fr, frL, frC, frT, frH, nestR, AV.rs, rsL, Chunk.lt, killC]
theorem ns_rd (ks E rows) : AV.ns ks (.rd E rows) = True := by first | rfl | simp only [pinL, pinP, AV.ns, nsL, nsC, nsH, nsT, AV.re, reL, AV.reP, rePL, isRow, inH, rowsH, upH, delH, AV.fr, frL, frC, frT, frH, nestR, AV.rs, rsL, Chunk.lt, killC]
theorem ns_rp (ks row j) : AV.ns ks (.rp row j) = True := by first | rfl | simp only [pinL, pinP, AV.ns, nsL, nsC, nsH, nsT, AV.re, reL, AV.reP, rePL, isRow, inH, rowsH, upH, delH, AV.fr, frL, frC, frT, frH, nestR, AV.rs, rsL, Chunk.lt, killC]
theorem ns_bad (ks) : AV.ns ks .bad = True := by first | rfl | simp only [pinL, pinP, AV.ns, nsL, nsC, nsH, nsT, AV.re, reL, AV.reP, rePL, isRow, inH, rowsH, upH, delH, AV.fr, frL, frC, frT, frH, nestR, AV.rs, rsL, Chunk.lt, killC]
theorem nsL_nil (ks) : nsL ks [] = True := by first | rfl | simp only [pinL, pinP, AV.ns, nsL, nsC, nsH, nsT, AV.re, reL, AV.reP, rePL, isRow, inH, rowsH, upH, delH, AV.fr, frL, frC, frT, frH, nestR, AV.rs, rsL, Chunk.lt, killC]
theorem nsL_cons (ks x xs) : nsL ks (x :: xs) = (AV.ns ks x ∧ nsL ks xs) := by first | rfl | simp only [pinL, pinP, AV.ns, nsL, nsC, nsH, nsT, AV.re, reL, AV.reP, rePL, isRow, inH, rowsH, upH, delH, AV.fr, frL, frC, frT, frH, nestR, AV.rs, rsL, Chunk.lt, killC]
theorem nsC_box (ks e cells) : nsC ks (.box e cells) = nsL ks cells := by first | rfl | simp only [pinL, pinP, AV.ns, nsL, nsC, nsH, nsT, AV.re, reL, AV.reP, rePL, isRow, inH, rowsH, upH, delH, AV.fr, frL, frC, frT, frH, nestR, AV.rs, rsL, Chunk.lt, killC]
theorem nsC_fact (ks xs us) : nsC ks (.fact xs us) = nsL ks xs := by first | rfl | simp only [pinL, pinP, AV.ns, nsL, nsC, nsH, nsT, AV.re, reL, AV.reP, rePL, isRow, inH, rowsH, upH, delH, AV.fr, frL, frC, frT, frH, nestR, AV.rs, rsL, Chunk.lt, killC]
theorem nsC_row (ks e E rows) : nsC ks (.row e E rows) = True := by first | rfl | simp only [pinL, pinP, AV.ns, nsL, nsC, nsH, nsT, AV.re, reL, AV.reP, rePL, isRow, inH, rowsH, upH, delH, AV.fr, frL, frC, frT, frH, nestR, AV.rs, rsL, Chunk.lt, killC]
theorem nsC_pin (ks q ob z) : nsC ks (.pin q ob z) = True := by first | rfl | simp only [pinL, pinP, AV.ns, nsL, nsC, nsH, nsT, AV.re, reL, AV.reP, rePL, isRow, inH, rowsH, upH, delH, AV.fr, frL, frC, frT, frH, nestR, AV.rs, rsL, Chunk.lt, killC]
theorem nsH_nil (ks) : nsH ks [] = True := by first | rfl | simp only [pinL, pinP, AV.ns, nsL, nsC, nsH, nsT, AV.re, reL, AV.reP, rePL, isRow, inH, rowsH, upH, delH, AV.fr, frL, frC, frT, frH, nestR, AV.rs, rsL, Chunk.lt, killC]
theorem nsH_cons (ks k c r) : nsH ks ((k, c) :: r) = (nsC ks c ∧ nsH ks r) := by first | rfl | simp only [pinL, pinP, AV.ns, nsL, nsC, nsH, nsT, AV.re, reL, AV.reP, rePL, isRow, inH, rowsH, upH, delH, AV.fr, frL, frC, frT, frH, nestR, AV.rs, rsL, Chunk.lt, killC]
theorem nsT_nil (ks) : nsT ks [] = True := by first | rfl | simp only [pinL, pinP, AV.ns, nsL, nsC, nsH, nsT, AV.re, reL, AV.reP, rePL, isRow, inH, rowsH, upH, delH, AV.fr, frL, frC, frT, frH, nestR, AV.rs, rsL, Chunk.lt, killC]
theorem nsT_cons (ks d c x r) : nsT ks ((d, c, x) :: r) = (AV.ns ks x ∧ nsT ks r) := by first | rfl | simp only [pinL, pinP, AV.ns, nsL, nsC, nsH, nsT, AV.re, reL, AV.reP, rePL, isRow, inH, rowsH, upH, delH, AV.fr, frL, frC, frT, frH, nestR, AV.rs, rsL, Chunk.lt, killC]
theorem re_sl (ks k E lo n) : AV.re ks (.sl k E lo n) = .sl (ks.getD k 0) E lo n := by first | rfl | simp only [pinL, pinP, AV.ns, nsL, nsC, nsH, nsT, AV.re, reL, AV.reP, rePL, isRow, inH, rowsH, upH, delH, AV.fr, frL, frC, frT, frH, nestR, AV.rs, rsL, Chunk.lt, killC]
theorem re_agg (ks xs) : AV.re ks (.agg xs) = .agg (reL ks xs) := by first | rfl | simp only [pinL, pinP, AV.ns, nsL, nsC, nsH, nsT, AV.re, reL, AV.reP, rePL, isRow, inH, rowsH, upH, delH, AV.fr, frL, frC, frT, frH, nestR, AV.rs, rsL, Chunk.lt, killC]
theorem re_v (ks x) : AV.re ks (.v x) = .v x := by first | rfl | simp only [pinL, pinP, AV.ns, nsL, nsC, nsH, nsT, AV.re, reL, AV.reP, rePL, isRow, inH, rowsH, upH, delH, AV.fr, frL, frC, frT, frH, nestR, AV.rs, rsL, Chunk.lt, killC]
theorem re_rd (ks E rows) : AV.re ks (.rd E rows) = .rd E rows := by first | rfl | simp only [pinL, pinP, AV.ns, nsL, nsC, nsH, nsT, AV.re, reL, AV.reP, rePL, isRow, inH, rowsH, upH, delH, AV.fr, frL, frC, frT, frH, nestR, AV.rs, rsL, Chunk.lt, killC]
theorem reL_nil (ks) : reL ks [] = [] := by first | rfl | simp only [pinL, pinP, AV.ns, nsL, nsC, nsH, nsT, AV.re, reL, AV.reP, rePL, isRow, inH, rowsH, upH, delH, AV.fr, frL, frC, frT, frH, nestR, AV.rs, rsL, Chunk.lt, killC]
theorem reL_cons (ks x xs) : reL ks (x :: xs) = AV.re ks x :: reL ks xs := by first | rfl | simp only [pinL, pinP, AV.ns, nsL, nsC, nsH, nsT, AV.re, reL, AV.reP, rePL, isRow, inH, rowsH, upH, delH, AV.fr, frL, frC, frT, frH, nestR, AV.rs, rsL, Chunk.lt, killC]
theorem reP_sl (k E lo n) : AV.reP (.sl k E lo n) = True := by first | rfl | simp only [pinL, pinP, AV.ns, nsL, nsC, nsH, nsT, AV.re, reL, AV.reP, rePL, isRow, inH, rowsH, upH, delH, AV.fr, frL, frC, frT, frH, nestR, AV.rs, rsL, Chunk.lt, killC]
theorem reP_agg (xs) : AV.reP (.agg xs) = rePL xs := by first | rfl | simp only [pinL, pinP, AV.ns, nsL, nsC, nsH, nsT, AV.re, reL, AV.reP, rePL, isRow, inH, rowsH, upH, delH, AV.fr, frL, frC, frT, frH, nestR, AV.rs, rsL, Chunk.lt, killC]
theorem reP_v (x) : AV.reP (.v x) = True := by first | rfl | simp only [pinL, pinP, AV.ns, nsL, nsC, nsH, nsT, AV.re, reL, AV.reP, rePL, isRow, inH, rowsH, upH, delH, AV.fr, frL, frC, frT, frH, nestR, AV.rs, rsL, Chunk.lt, killC]
theorem reP_rd (E rows) : AV.reP (.rd E rows) = True := by first | rfl | simp only [pinL, pinP, AV.ns, nsL, nsC, nsH, nsT, AV.re, reL, AV.reP, rePL, isRow, inH, rowsH, upH, delH, AV.fr, frL, frC, frT, frH, nestR, AV.rs, rsL, Chunk.lt, killC]
theorem rePL_nil : rePL [] = True := by first | rfl | simp only [pinL, pinP, AV.ns, nsL, nsC, nsH, nsT, AV.re, reL, AV.reP, rePL, isRow, inH, rowsH, upH, delH, AV.fr, frL, frC, frT, frH, nestR, AV.rs, rsL, Chunk.lt, killC]
theorem rePL_cons (x xs) : rePL (x :: xs) = (AV.reP x ∧ rePL xs) := by first | rfl | simp only [pinL, pinP, AV.ns, nsL, nsC, nsH, nsT, AV.re, reL, AV.reP, rePL, isRow, inH, rowsH, upH, delH, AV.fr, frL, frC, frT, frH, nestR, AV.rs, rsL, Chunk.lt, killC]
theorem isRow_row (e E rows) : isRow (.row e E rows) = True := by first | rfl | simp only [pinL, pinP, AV.ns, nsL, nsC, nsH, nsT, AV.re, reL, AV.reP, rePL, isRow, inH, rowsH, upH, delH, AV.fr, frL, frC, frT, frH, nestR, AV.rs, rsL, Chunk.lt, killC]
theorem inH_nil (ks h) : inH ks h [] = True := by first | rfl | simp only [pinL, pinP, AV.ns, nsL, nsC, nsH, nsT, AV.re, reL, AV.reP, rePL, isRow, inH, rowsH, upH, delH, AV.fr, frL, frC, frT, frH, nestR, AV.rs, rsL, Chunk.lt, killC]
theorem inH_cons (ks h q c r) : inH ks h ((q, c) :: r) = (q < ks.length ∧ isRow c ∧ look? h (ks.getD q 0) = some c ∧ inH ks h r) := by first | rfl | simp only [pinL, pinP, AV.ns, nsL, nsC, nsH, nsT, AV.re, reL, AV.reP, rePL, isRow, inH, rowsH, upH, delH, AV.fr, frL, frC, frT, frH, nestR, AV.rs, rsL, Chunk.lt, killC]
theorem rowsH_nil (n) : rowsH n [] = True := by first | rfl | simp only [pinL, pinP, AV.ns, nsL, nsC, nsH, nsT, AV.re, reL, AV.reP, rePL, isRow, inH, rowsH, upH, delH, AV.fr, frL, frC, frT, frH, nestR, AV.rs, rsL, Chunk.lt, killC]
theorem rowsH_cons (n q c r) : rowsH n ((q, c) :: r) = (q < n ∧ isRow c ∧ rowsH n r) := by first | rfl | simp only [pinL, pinP, AV.ns, nsL, nsC, nsH, nsT, AV.re, reL, AV.reP, rePL, isRow, inH, rowsH, upH, delH, AV.fr, frL, frC, frT, frH, nestR, AV.rs, rsL, Chunk.lt, killC]
theorem upH_nil (ks r) : upH ks [] r = r := by first | rfl | simp only [pinL, pinP, AV.ns, nsL, nsC, nsH, nsT, AV.re, reL, AV.reP, rePL, isRow, inH, rowsH, upH, delH, AV.fr, frL, frC, frT, frH, nestR, AV.rs, rsL, Chunk.lt, killC]
theorem upH_cons (ks q c h r) : upH ks ((q, c) :: h) r = (ks.getD q 0, c) :: upH ks h r := by first | rfl | simp only [pinL, pinP, AV.ns, nsL, nsC, nsH, nsT, AV.re, reL, AV.reP, rePL, isRow, inH, rowsH, upH, delH, AV.fr, frL, frC, frT, frH, nestR, AV.rs, rsL, Chunk.lt, killC]
theorem delH_nil (ks) : delH ks [] = [] := by first | rfl | simp only [pinL, pinP, AV.ns, nsL, nsC, nsH, nsT, AV.re, reL, AV.reP, rePL, isRow, inH, rowsH, upH, delH, AV.fr, frL, frC, frT, frH, nestR, AV.rs, rsL, Chunk.lt, killC]
theorem delH_cons (ks k c r) : delH ks ((k, c) :: r) = if k ∈ ks then delH ks r else (k, c) :: delH ks r := by first | rfl | simp only [pinL, pinP, AV.ns, nsL, nsC, nsH, nsT, AV.re, reL, AV.reP, rePL, isRow, inH, rowsH, upH, delH, AV.fr, frL, frC, frT, frH, nestR, AV.rs, rsL, Chunk.lt, killC]
theorem fr_sl (ks k q E lo n) : AV.fr ks k (.sl q E lo n) = (q ∉ ks) := by first | rfl | simp only [pinL, pinP, AV.ns, nsL, nsC, nsH, nsT, AV.re, reL, AV.reP, rePL, isRow, inH, rowsH, upH, delH, AV.fr, frL, frC, frT, frH, nestR, AV.rs, rsL, Chunk.lt, killC]
theorem fr_ptr (ks k q E i j) : AV.fr ks k (.ptr q E i j) = (q ∉ ks) := by first | rfl | simp only [pinL, pinP, AV.ns, nsL, nsC, nsH, nsT, AV.re, reL, AV.reP, rePL, isRow, inH, rowsH, upH, delH, AV.fr, frL, frC, frT, frH, nestR, AV.rs, rsL, Chunk.lt, killC]
theorem fr_sub' (ks k q i j E lo n) : AV.fr ks k (.sub q i j E lo n) = (q ≠ k) := by first | rfl | simp only [pinL, pinP, AV.ns, nsL, nsC, nsH, nsT, AV.re, reL, AV.reP, rePL, isRow, inH, rowsH, upH, delH, AV.fr, frL, frC, frT, frH, nestR, AV.rs, rsL, Chunk.lt, killC]
theorem fr_subp (ks k q i j E l p) : AV.fr ks k (.subp q i j E l p) = (q ≠ k) := by first | rfl | simp only [pinL, pinP, AV.ns, nsL, nsC, nsH, nsT, AV.re, reL, AV.reP, rePL, isRow, inH, rowsH, upH, delH, AV.fr, frL, frC, frT, frH, nestR, AV.rs, rsL, Chunk.lt, killC]
theorem fr_agg (ks k xs) : AV.fr ks k (.agg xs) = frL ks k xs := by first | rfl | simp only [pinL, pinP, AV.ns, nsL, nsC, nsH, nsT, AV.re, reL, AV.reP, rePL, isRow, inH, rowsH, upH, delH, AV.fr, frL, frC, frT, frH, nestR, AV.rs, rsL, Chunk.lt, killC]
theorem fr_tup (ks k xs) : AV.fr ks k (.tup xs) = frL ks k xs := by first | rfl | simp only [pinL, pinP, AV.ns, nsL, nsC, nsH, nsT, AV.re, reL, AV.reP, rePL, isRow, inH, rowsH, upH, delH, AV.fr, frL, frC, frT, frH, nestR, AV.rs, rsL, Chunk.lt, killC]
theorem fr_fn (ks k f xs) : AV.fr ks k (.fn f xs) = frL ks k xs := by first | rfl | simp only [pinL, pinP, AV.ns, nsL, nsC, nsH, nsT, AV.re, reL, AV.reP, rePL, isRow, inH, rowsH, upH, delH, AV.fr, frL, frC, frT, frH, nestR, AV.rs, rsL, Chunk.lt, killC]
theorem fr_rq (ks k xs j) : AV.fr ks k (.rq xs j) = frL ks k xs := by first | rfl | simp only [pinL, pinP, AV.ns, nsL, nsC, nsH, nsT, AV.re, reL, AV.reP, rePL, isRow, inH, rowsH, upH, delH, AV.fr, frL, frC, frT, frH, nestR, AV.rs, rsL, Chunk.lt, killC]
theorem fr_v (ks k x) : AV.fr ks k (.v x) = True := by first | rfl | simp only [pinL, pinP, AV.ns, nsL, nsC, nsH, nsT, AV.re, reL, AV.reP, rePL, isRow, inH, rowsH, upH, delH, AV.fr, frL, frC, frT, frH, nestR, AV.rs, rsL, Chunk.lt, killC]
theorem fr_rd (ks k E rows) : AV.fr ks k (.rd E rows) = True := by first | rfl | simp only [pinL, pinP, AV.ns, nsL, nsC, nsH, nsT, AV.re, reL, AV.reP, rePL, isRow, inH, rowsH, upH, delH, AV.fr, frL, frC, frT, frH, nestR, AV.rs, rsL, Chunk.lt, killC]
theorem fr_rp (ks k row j) : AV.fr ks k (.rp row j) = True := by first | rfl | simp only [pinL, pinP, AV.ns, nsL, nsC, nsH, nsT, AV.re, reL, AV.reP, rePL, isRow, inH, rowsH, upH, delH, AV.fr, frL, frC, frT, frH, nestR, AV.rs, rsL, Chunk.lt, killC]
theorem fr_bad (ks k) : AV.fr ks k .bad = True := by first | rfl | simp only [pinL, pinP, AV.ns, nsL, nsC, nsH, nsT, AV.re, reL, AV.reP, rePL, isRow, inH, rowsH, upH, delH, AV.fr, frL, frC, frT, frH, nestR, AV.rs, rsL, Chunk.lt, killC]
theorem frL_nil (ks k) : frL ks k [] = True := by first | rfl | simp only [pinL, pinP, AV.ns, nsL, nsC, nsH, nsT, AV.re, reL, AV.reP, rePL, isRow, inH, rowsH, upH, delH, AV.fr, frL, frC, frT, frH, nestR, AV.rs, rsL, Chunk.lt, killC]
theorem frL_cons (ks k x xs) : frL ks k (x :: xs) = (AV.fr ks k x ∧ frL ks k xs) := by first | rfl | simp only [pinL, pinP, AV.ns, nsL, nsC, nsH, nsT, AV.re, reL, AV.reP, rePL, isRow, inH, rowsH, upH, delH, AV.fr, frL, frC, frT, frH, nestR, AV.rs, rsL, Chunk.lt, killC]
theorem frC_box (ks k e cells) : frC ks k (.box e cells) = frL ks k cells := by first | rfl | simp only [pinL, pinP, AV.ns, nsL, nsC, nsH, nsT, AV.re, reL, AV.reP, rePL, isRow, inH, rowsH, upH, delH, AV.fr, frL, frC, frT, frH, nestR, AV.rs, rsL, Chunk.lt, killC]
theorem frC_fact (ks k xs us) : frC ks k (.fact xs us) = frL ks k xs := by first | rfl | simp only [pinL, pinP, AV.ns, nsL, nsC, nsH, nsT, AV.re, reL, AV.reP, rePL, isRow, inH, rowsH, upH, delH, AV.fr, frL, frC, frT, frH, nestR, AV.rs, rsL, Chunk.lt, killC]
theorem frC_row (ks k e E rows) : frC ks k (.row e E rows) = True := by first | rfl | simp only [pinL, pinP, AV.ns, nsL, nsC, nsH, nsT, AV.re, reL, AV.reP, rePL, isRow, inH, rowsH, upH, delH, AV.fr, frL, frC, frT, frH, nestR, AV.rs, rsL, Chunk.lt, killC]
theorem frC_pin (ks k q ob z) : frC ks k (.pin q ob z) = (q ∉ ks) := by first | rfl | simp only [pinL, pinP, AV.ns, nsL, nsC, nsH, nsT, AV.re, reL, AV.reP, rePL, isRow, inH, rowsH, upH, delH, AV.fr, frL, frC, frT, frH, nestR, AV.rs, rsL, Chunk.lt, killC]
theorem frT_nil (ks k t) : frT ks k t [] = True := by first | rfl | simp only [pinL, pinP, AV.ns, nsL, nsC, nsH, nsT, AV.re, reL, AV.reP, rePL, isRow, inH, rowsH, upH, delH, AV.fr, frL, frC, frT, frH, nestR, AV.rs, rsL, Chunk.lt, killC]
theorem frT_cons (ks k t d c x r) : frT ks k t ((d, c, x) :: r) = (AV.fr ks k x ∧ look (true, .bad) t d = (c, x) ∧ frT ks k t r) := by first | rfl | simp only [pinL, pinP, AV.ns, nsL, nsC, nsH, nsT, AV.re, reL, AV.reP, rePL, isRow, inH, rowsH, upH, delH, AV.fr, frL, frC, frT, frH, nestR, AV.rs, rsL, Chunk.lt, killC]
theorem frH_nil (ks k h) : frH ks k h [] = True := by first | rfl | simp only [pinL, pinP, AV.ns, nsL, nsC, nsH, nsT, AV.re, reL, AV.reP, rePL, isRow, inH, rowsH, upH, delH, AV.fr, frL, frC, frT, frH, nestR, AV.rs, rsL, Chunk.lt, killC]
theorem frH_cons (ks k h q c r) : frH ks k h ((q, c) :: r) = (q ∉ ks ∧ q ≠ k ∧ frC ks k c ∧ look? h q = some c ∧ frH ks k h r) := by first | rfl | simp only [pinL, pinP, AV.ns, nsL, nsC, nsH, nsT, AV.re, reL, AV.reP, rePL, isRow, inH, rowsH, upH, delH, AV.fr, frL, frC, frT, frH, nestR, AV.rs, rsL, Chunk.lt, killC]
theorem nestR_nil (h) : nestR h [] [] [] = True := by first | rfl | simp only [pinL, pinP, AV.ns, nsL, nsC, nsH, nsT, AV.re, reL, AV.reP, rePL, isRow, inH, rowsH, upH, delH, AV.fr, frL, frC, frT, frH, nestR, AV.rs, rsL, Chunk.lt, killC]
theorem nestR_v (h z xs z' cs ks) : nestR h (.v z :: xs) (.v z' :: cs) ks = (z = z' ∧ nestR h xs cs ks) := by first | rfl | simp only [pinL, pinP, AV.ns, nsL, nsC, nsH, nsT, AV.re, reL, AV.reP, rePL, isRow, inH, rowsH, upH, delH, AV.fr, frL, frC, frT, frH, nestR, AV.rs, rsL, Chunk.lt, killC]
theorem nestR_s (h q E lo n xs e E' vals cs q' ks) : nestR h (.sl q E lo n :: xs) (.s e E' vals :: cs) (q' :: ks) = (q' = q ∧ lo = 0 ∧ E' = E ∧ n = vals.length ∧ look? h q = some (.row e E (vals.map (·.map .v))) ∧ nestR h xs cs ks) := by first | rfl | simp only [pinL, pinP, AV.ns, nsL, nsC, nsH, nsT, AV.re, reL, AV.reP, rePL, isRow, inH, rowsH, upH, delH, AV.fr, frL, frC, frT, frH, nestR, AV.rs, rsL, Chunk.lt, killC]
theorem rs_sl (k i j q E lo n) : AV.rs k i j (.sl q E lo n) = .sub k i j E lo n := by first | rfl | simp only [pinL, pinP, AV.ns, nsL, nsC, nsH, nsT, AV.re, reL, AV.reP, rePL, isRow, inH, rowsH, upH, delH, AV.fr, frL, frC, frT, frH, nestR, AV.rs, rsL, Chunk.lt, killC]
theorem rs_agg (k i j xs) : AV.rs k i j (.agg xs) = .agg (rsL k i j xs) := by first | rfl | simp only [pinL, pinP, AV.ns, nsL, nsC, nsH, nsT, AV.re, reL, AV.reP, rePL, isRow, inH, rowsH, upH, delH, AV.fr, frL, frC, frT, frH, nestR, AV.rs, rsL, Chunk.lt, killC]
theorem rs_v (k i j x) : AV.rs k i j (.v x) = .v x := by first | rfl | simp only [pinL, pinP, AV.ns, nsL, nsC, nsH, nsT, AV.re, reL, AV.reP, rePL, isRow, inH, rowsH, upH, delH, AV.fr, frL, frC, frT, frH, nestR, AV.rs, rsL, Chunk.lt, killC]
theorem rs_rd (k i j E rows) : AV.rs k i j (.rd E rows) = .rd E rows := by first | rfl | simp only [pinL, pinP, AV.ns, nsL, nsC, nsH, nsT, AV.re, reL, AV.reP, rePL, isRow, inH, rowsH, upH, delH, AV.fr, frL, frC, frT, frH, nestR, AV.rs, rsL, Chunk.lt, killC]
theorem rsL_nil (k i j) : rsL k i j [] = [] := by first | rfl | simp only [pinL, pinP, AV.ns, nsL, nsC, nsH, nsT, AV.re, reL, AV.reP, rePL, isRow, inH, rowsH, upH, delH, AV.fr, frL, frC, frT, frH, nestR, AV.rs, rsL, Chunk.lt, killC]
theorem rsL_cons (k i j x xs) : rsL k i j (x :: xs) = AV.rs k i j x :: rsL k i j xs := by first | rfl | simp only [pinL, pinP, AV.ns, nsL, nsC, nsH, nsT, AV.re, reL, AV.reP, rePL, isRow, inH, rowsH, upH, delH, AV.fr, frL, frC, frT, frH, nestR, AV.rs, rsL, Chunk.lt, killC]
theorem lt_pin (n q ob z) : Chunk.lt n (.pin q ob z) = (q < n) := by first | rfl | simp only [pinL, pinP, AV.ns, nsL, nsC, nsH, nsT, AV.re, reL, AV.reP, rePL, isRow, inH, rowsH, upH, delH, AV.fr, frL, frC, frT, frH, nestR, AV.rs, rsL, Chunk.lt, killC]
theorem lt_fact (n xs us) : Chunk.lt n (.fact xs us) = ltL n xs := by first | rfl | simp only [pinL, pinP, AV.ns, nsL, nsC, nsH, nsT, AV.re, reL, AV.reP, rePL, isRow, inH, rowsH, upH, delH, AV.fr, frL, frC, frT, frH, nestR, AV.rs, rsL, Chunk.lt, killC]
theorem killC_pin (k q ob z) : killC k (.pin q ob z) = if q = k then .pin q none 0 else .pin q ob z := by first | rfl | simp only [pinL, pinP, AV.ns, nsL, nsC, nsH, nsT, AV.re, reL, AV.reP, rePL, isRow, inH, rowsH, upH, delH, AV.fr, frL, frC, frT, frH, nestR, AV.rs, rsL, Chunk.lt, killC]

/-- The rules for functions that write, and for structs with own slices in rows. -/
def wrt := And.intro (And.intro (And.intro (And.intro (And.intro (And.intro @pinL_zero @pinL_succ) (And.intro @pinP_zero (And.intro @pinP_succ @ns_sub))) (And.intro (And.intro @ns_subp @ns_agg) (And.intro @ns_tup (And.intro @ns_fn @ns_rq)))) (And.intro (And.intro (And.intro @ns_sl @ns_ptr) (And.intro @ns_v (And.intro @ns_rd @ns_rp))) (And.intro (And.intro @ns_bad @nsL_nil) (And.intro @nsL_cons (And.intro @nsC_box @nsC_fact))))) (And.intro (And.intro (And.intro (And.intro @nsC_row @nsC_pin) (And.intro @nsH_nil (And.intro @nsH_cons @nsT_nil))) (And.intro (And.intro @nsT_cons @re_sl) (And.intro @re_agg (And.intro @re_v @re_rd)))) (And.intro (And.intro (And.intro @reL_nil @reL_cons) (And.intro @reP_sl (And.intro @reP_agg @reP_v))) (And.intro (And.intro @reP_rd @rePL_nil) (And.intro @rePL_cons (And.intro @isRow_row @inH_nil)))))) (And.intro (And.intro (And.intro (And.intro (And.intro @inH_cons @rowsH_nil) (And.intro @rowsH_cons (And.intro @upH_nil @upH_cons))) (And.intro (And.intro @delH_nil @delH_cons) (And.intro @fr_sl (And.intro @fr_ptr @fr_sub')))) (And.intro (And.intro (And.intro @fr_subp @fr_agg) (And.intro @fr_tup (And.intro @fr_fn @fr_rq))) (And.intro (And.intro @fr_v @fr_rd) (And.intro @fr_rp (And.intro @fr_bad @frL_nil))))) (And.intro (And.intro (And.intro (And.intro @frL_cons @frC_box) (And.intro @frC_fact (And.intro @frC_row @frC_pin))) (And.intro (And.intro @frT_nil @frT_cons) (And.intro @frH_nil (And.intro @frH_cons @nestR_nil)))) (And.intro (And.intro (And.intro @nestR_v @nestR_s) (And.intro @rs_sl (And.intro @rs_agg @rs_v))) (And.intro (And.intro @rs_rd (And.intro @rsL_nil @rsL_cons)) (And.intro @lt_pin (And.intro @lt_fact @killC_pin))))))

section
variable (P : Program) (t t2 : TypeId) (s : St) (x y : AV) (k k' E E' lo n i j l q nk : Nat) (h : Heap) (e : TypeId) (rows : List (List Cell)) (xs : List AV)
/-! loads and stores through a pointer into a nested slice -/
def cellS (j : Nat) (row : List Cell) : List (List Value) := match row[j]? with | some (.s _ _ rs) => rs | _ => []
end
end Go.Eng

/- The engine, part Y: plain facts about rows that are filled or marked one after the other. -/
set_option linter.unusedVariables false
set_option linter.unusedSimpArgs false
namespace Go.Eng
open Go

/-- What is left of a budget. -/
def spend (left : Int) (n : Nat) : Int := if left < n then -1 else left - n
theorem spend_neg {left : Int} {n : Nat} (h0 : 0 ≤ left) : spend left n < 0 ↔ left < n := by unfold spend; split <;> omega
theorem spend_add {left : Int} {a b : Nat} (h : ¬ left < a) : spend (left - a) b = spend left (a + b) := by unfold spend; split <;> split <;> omega
theorem spend_out {left : Int} {a b : Nat} (h0 : 0 ≤ left) (h : left < a) : spend left (a + b) = -1 := by unfold spend; rw [if_pos (by omega)]
theorem spend_ok {left : Int} {a : Nat} (h : ¬ left < a) : spend left a = left - a := by unfold spend; rw [if_neg h]
theorem spend_lt {left : Int} {a : Nat} (h : left < a) : spend left a = -1 := by unfold spend; rw [if_pos h]
theorem spend_zero {left : Int} (h : 0 ≤ left) : spend left 0 = left := by unfold spend; rw [if_neg (by omega)]; omega

/-- The first i rows are filled, the others are z. -/
def fillR {α : Type} (f : α → List Cell) (z : List Cell) (l : List α) (i : Nat) : List (List Cell) := (l.take i).map f ++ List.replicate (l.length - i) z
theorem fillR_zero {α : Type} (f : α → List Cell) (z : List Cell) (l : List α) : List.replicate l.length z = fillR f z l 0 := by simp [fillR]
theorem fillR_length {α : Type} (f : α → List Cell) (z : List Cell) (l : List α) (i : Nat) (h : i ≤ l.length) : (fillR f z l i).length = l.length := by simp [fillR]; omega
theorem fillR_getD {α : Type} (f : α → List Cell) (z : List Cell) (l : List α) (i : Nat) (h : i < l.length) : (fillR f z l i).getD i [] = z := by
  unfold fillR
  rw [List.getD_eq_getElem?_getD, List.getElem?_append_right (by simp; omega)]
  simp only [List.length_map, List.length_take]
  rw [show i - min i l.length = 0 by omega, List.getElem?_replicate]
  rw [if_pos (by omega)]; rfl
theorem fillR_set {α : Type} (d : α) (f : α → List Cell) (z : List Cell) (l : List α) (i : Nat) (h : i < l.length) : (fillR f z l i).set i (f (l.getD i d)) = fillR f z l (i + 1) := by
  unfold fillR
  rw [List.set_append_right _ _ (by simp; omega)]
  simp only [List.length_map, List.length_take]
  rw [show i - min i l.length = 0 by omega]
  obtain ⟨c, hc⟩ : ∃ c, l.length - i = c + 1 := ⟨l.length - i - 1, by omega⟩
  rw [hc, List.replicate_succ, List.set_cons_zero, show l.length - (i + 1) = c by omega, List.take_succ_eq_append_getElem h, List.map_append]
  rw [getD_get l i d h]
  simp
theorem fillR_end {α : Type} (f : α → List Cell) (z : List Cell) (l : List α) (i : Nat) (h : ¬ i < l.length) : fillR f z l i = l.map f := by
  unfold fillR
  rw [List.take_of_length_le (by omega), show l.length - i = 0 by omega]; simp

/-- The first i rows are marked, the others are as they were. -/
def markR {α : Type} (f : α → List Cell) (g : Nat → α) (l : List α) (i : Nat) : List (List Cell) := ((List.range i).map g ++ l.drop i).map f
def marks {α : Type} (g : Nat → α) (n : Nat) : List α := (List.range n).map g
theorem marks_length {α : Type} (g : Nat → α) (n : Nat) : (marks g n).length = n := by simp [marks]
theorem marks_getD {α : Type} (d : α) (g : Nat → α) (n i : Nat) (h : i < n) : (marks g n).getD i d = g i := by
  unfold marks; rw [List.getD_eq_getElem?_getD]; simp [h]
theorem markR_zero {α : Type} (f : α → List Cell) (g : Nat → α) (l : List α) : l.map f = markR f g l 0 := by simp [markR]
theorem markR_length {α : Type} (f : α → List Cell) (g : Nat → α) (l : List α) (i : Nat) (h : i ≤ l.length) : (markR f g l i).length = l.length := by simp [markR]; omega
theorem markR_getD {α : Type} (d : α) (f : α → List Cell) (g : Nat → α) (l : List α) (i : Nat) (h : i < l.length) : (markR f g l i).getD i [] = f (l.getD i d) := by
  unfold markR
  rw [List.getD_eq_getElem?_getD, List.getElem?_map, List.getElem?_append_right (by simp)]
  simp only [List.length_map, List.length_range, Nat.sub_self, List.getElem?_drop, Nat.add_zero]
  rw [List.getElem?_eq_getElem h, getD_get l i d h]; rfl
theorem markR_set {α : Type} (f : α → List Cell) (g : Nat → α) (l : List α) (i : Nat) (h : i < l.length) : (markR f g l i).set i (f (g i)) = markR f g l (i + 1) := by
  unfold markR
  rw [← List.map_set, List.set_append_right _ _ (by simp)]
  simp only [List.length_map, List.length_range, Nat.sub_self]
  rw [List.drop_eq_getElem_cons h, List.set_cons_zero, List.range_succ]
  simp
theorem markR_end {α : Type} (f : α → List Cell) (g : Nat → α) (l : List α) (i : Nat) (h : i = l.length) : markR f g l i = (marks g l.length).map f := by
  subst h
  unfold markR marks; simp
theorem set_set_same {α : Type} (l : List α) (i : Nat) (a b : α) : (l.set i a).set i b = l.set i b := List.set_set ..
theorem getD_set_same {α : Type} (l : List α) (i : Nat) (a d : α) (h : i < l.length) : (l.set i a).getD i d = a := by
  rw [List.getD_eq_getElem?_getD, List.getElem?_set]; simp [h]

/-- An array of one-cell elements, just made, seen as rows of one cell. -/
theorem weak_arr {s : St} {d k e : Nat} {vals : List Value} (hd : look (true, .bad) s.t d = (true, .ptr k 0 0 0)) (hk : look? s.h k = some (.box e (vals.map .v))) :
    Weak s ⟨(d, true, .ptr k 1 0 0) :: s.t, (k, .row e 1 (vals.map fun v => [Cell.v v])) :: s.h, s.nk, s.N⟩ := by
  intro B m a w hs
  refine ⟨m, hs.defers, hs.size, hs.r, ⟨hs.core.inj, hs.core.lt, hs.core.z, hs.core.ro, hs.core.new, fun q c hq => ?_⟩, hs.own, hs.frm, fun i => ?_⟩
  · simp only [look?] at hq
    split at hq
    · rename_i he; subst he
      simp only [Option.some.injEq] at hq; subst hq
      obtain ⟨b, vs, fr, h1, h2, h3, h4⟩ := hs.core.chunk k _ hk
      have hlen := h4.length
      refine .inr ⟨b, vs, fr, h1, h2, h3, by simp at hlen ⊢; omega, fun i row hi => ?_⟩
      simp only [List.getElem?_map, Option.map_eq_some_iff] at hi
      obtain ⟨v, hv, rfl⟩ := hi
      refine ⟨rfl, fun j c hj => ?_⟩
      cases j with
      | zero =>
        simp only [List.getElem?_cons_zero, Option.some.injEq] at hj; subst hj
        obtain ⟨u, hu, hok⟩ := h4.get (show (vals.map AV.v)[i]? = some (.v v) by simp [hv])
        rw [ok_v] at hok; subst hok
        exact ⟨u, by simpa using hu, rfl⟩
      | succ j => simp at hj
    · exact hs.core.chunk q c hq
  · simp only [look]
    split
    · rename_i he; subst he
      refine ⟨fun _ => ?_, fun hc => by simp at hc⟩
      have := (hs.tmps d).1 (by rw [hd])
      rw [hd] at this
      simp only [Ok] at this ⊢
      obtain ⟨b, h1, h2⟩ := this
      exact ⟨b, h1, by simpa using h2⟩
    · exact hs.tmps i
theorem set_map_fn {α β : Type} (f : α → β) (l : List α) (i : Nat) (a : α) : (l.map f).set i (f a) = (l.set i a).map f := List.map_set.symm
end Go.Eng

/- The engine, part Z: from a row's reading to the walk's arguments, and back. -/
set_option linter.unusedVariables false
set_option linter.unusedSimpArgs false
namespace Go.Eng
open Go Go.ChangeShapes Go.WideShapes Go.Deep Go.RowKit

/-! ### Behind the call -/
section
variable {H : Type} {enc : TypeId × Value → H} {P : Program} {w w' : World} {base : Nat} {spare : Nat → Bool} {held : Bool}
theorem sameAt_of_below (hb : RowKit.Below w.heap.size w w') {p : MemPlace} (hp : p.block < w.heap.size) : w.sameAt w' p := by
  cases p with
  | cell b off => show w'.cell? _ = w.cell? _; unfold World.cell?; rw [show (w'.heap[b]? = w.heap[b]?) from hb.block b hp]
  | map b => exact hb.block b hp
theorem TrodAll_carry : ∀ {ts : List TypeId} {vs : List Value} {ds : List (DataW H)} {ps : List MemPlace}, DataW.TrodAll enc P w base spare held ts vs ds ps → (∀ p ∈ ps, w.sameAt w' p) → DataW.TrodAll enc P w' base spare held ts vs ds ps
  | [], [], [], _, h, _ => h
  | _ :: _, _ :: _, _ :: _, _, ⟨p, q, ⟨n, h1⟩, h2, e⟩, hs => ⟨p, q, ⟨n, DataW.trod_carry n _ _ _ h1 (fun x hx => hs x (by rw [e]; exact List.mem_append_left _ hx))⟩, TrodAll_carry h2 (fun x hx => hs x (by rw [e]; exact List.mem_append_right _ hx)), e⟩
theorem keptBut_of_below (hb : RowKit.Below w.heap.size w w') (may : MemPlace → Prop) : w.keptBut w' may := by
  refine ⟨hb.os, hb.output, fun i hi => ?_⟩
  rw [hb.block i hi]
  cases w.heap[i]? with
  | none => rfl
  | some o =>
    cases o with
    | cells c t fr => exact ⟨rfl, rfl, rfl, fun _ _ => rfl⟩
    | map es clock => exact .inr ⟨rfl, rfl⟩
    | _ => rfl
/-- A law that hands back a bool, and has left all that was. -/
theorem bool_post {f : Func} {s : ChangeSpec} {apart fresh handsOn again : Bool} {args : Array Value} {ds gs : List (DataW H)} {before : List MemPlace} {tb : TypeId} {b : Bool}
    (hrt : f.resultTypes = #[tb]) (htb : P.underlying tb = some .bool) (hv : s.vars = []) (hs : gs = [] → s.fn H (ds ++ gs) = { results := [.lit (.bool b)], args := ds })
    (hl : laidOutB P = true) (hm : mapsRowed P = true) (hz : ((List.range P.types.size).all fun t => match P.underlying t with | some (.slice e) => decide (0 < P.cellsOf e) | _ => true) = true) (hts : ∀ t ∈ f.params.toList, t < P.types.size)
    (hW : DataW.Whole enc P f.params.toList s.vars apart w args.toList ds gs before) (hb : RowKit.Below w.heap.size w w') :
    s.post enc P f apart fresh handsOn again w args (.bool b) w' := by
  have hW' := hW
  obtain ⟨p, q, hA, hV, he, hfz, hnd⟩ := hW
  rw [hv] at hV
  obtain ⟨rfl, rfl⟩ := trodVars_none hV
  have hs := hs rfl
  rw [List.append_nil] at hs
  have hpl : ∀ x ∈ p, x.block < w.heap.size := hA.lt
  have hA' : DataW.TrodAll enc P w' 0 (fun _ => true) true f.params.toList args.toList ds p := TrodAll_carry hA fun x hx => sameAt_of_below hb (hpl x hx)
  have hargs : ∀ sp : Nat → Bool, (∀ x ∈ p, sp x.block = true) → DataW.TrodAll enc P w' 0 sp true f.params.toList args.toList ds p := fun sp h =>
    DataW.TrodAll.respare (kids_rows hl hm) (slices_full_of P hz · · ·) hts hA' h
  have hres : ∀ (b' : Nat) (sp : Nat → Bool) (hd : Bool), DataW.TrodAll enc P w' b' sp hd f.resultTypes.toList ((Value.bool b).resultList f.resultTypes.size) [.lit (.bool b)] [] := fun b' sp hd => by
    rw [hrt]; exact trodAll_cons_mk (shut_bool htb b) trodAll_mk0
  have hold : ∀ x ∈ p, (fun b => decide (b < w.heap.size)) x.block = true := fun x hx => by simpa using hpl x hx
  have hbef : before = p := by rw [he]; simp
  have hvars : ∀ sp : Nat → Bool, DataW.TrodVars enc P w' sp s.vars ([] : List (DataW H)) [] := fun sp => by rw [hv]; rfl
  refine ⟨ds, [], before, [], p, [], hW', ?_, ?_, ?_, keptBut_of_below hb _, fun _ => ⟨ok_one hrt rfl (okWide_bool_mk htb b), ds.cons (.lit (.bool b)), [], p, ⟨p, [], ?_, hvars _, by simp, ?_, ?_⟩, fun x hx _ => by rw [hbef]; exact hx⟩⟩
  · simp only [List.append_nil, hs]; exact hres _ _ _
  · simp only [List.append_nil, hs]; exact hargs _ hold
  · simp only [List.append_nil, hs]; exact hvars _
  · have := trodAll_append (hargs _ (fun _ _ => rfl)) (hres 0 (fun _ => true) true)
    simpa using this
  · intro b' off hp
    have hlt : b' < w.heap.size := hpl _ hp
    have := hfz b' off (by rw [hbef]; exact hp)
    unfold World.frozen? at this ⊢
    rw [show (w'.heap[b']? = w.heap[b']?) from hb.block b' hlt]; exact this
  · intro ha
    have := hnd ha
    rw [hbef] at this; exact this

/-! ### Ahead of the call -/
theorem cellIn_of {b o : Nat} {y : Value} (h : w.cell? ⟨b, o, none⟩ = some y) : cellIn (totR w) b o = some y := by
  unfold World.cell? at h
  unfold cellIn totR
  simp only at h ⊢
  cases hb : w.heap[b]? with
  | none => rw [hb] at h; cases h
  | some ob =>
    rw [hb] at h
    cases ob with
    | cells c t fr => simpa using h
    | _ => cases h
/-- The cells of an element are what the row says. -/
def RowOk (w : World) (row : List Cell) (cs : List Value) : Prop := cs.length = row.length ∧ ∀ (j : Nat) c, row[j]? = some c → ∃ y, cs[j]? = some y ∧ RdCell (totR w) c y
theorem RowOk.nil : RowOk w [] [] := ⟨rfl, fun j c h => by simp at h⟩
theorem RowOk.cons {c : Cell} {row : List Cell} {y : Value} {cs : List Value} (h1 : RdCell (totR w) c y) (h : RowOk w row cs) : RowOk w (c :: row) (y :: cs) := by
  refine ⟨by simp [h.1], fun j c' hj => ?_⟩
  cases j with
  | zero => simp only [List.getElem?_cons_zero, Option.some.injEq] at hj; subst hj; exact ⟨y, rfl, h1⟩
  | succ j => simp only [List.getElem?_cons_succ] at hj ⊢; exact h.2 j c' hj
theorem open_rows {α : Type} [Inhabited α] {t e : TypeId} {fuel E : Nat} {cs : List Value} {x : DataW H × List MemPlace} (g : α → List Cell) (good : α → Prop) (hg : ∀ a, (g a).length = E) (hE : 0 < E)
    (ht : P.underlying t = some (.slice e)) (hC : P.cellsOf e = E)
    (hel : ∀ n cs y, DataW.trod enc P w base spare held n e cs = some y → ∃ a, good a ∧ RowOk w (g a) cs) (h : DataW.trod enc P w base spare held fuel t cs = some x) :
    ∃ (l : List α) (v : Value), cs = [v] ∧ RdRow (totR w) E (l.map g) v ∧ l.length ≤ maxLen ∧ ∀ a ∈ l, good a := by
  rcases open_slice ht h with ⟨rfl, _⟩ | ⟨a, len, cap, m, n, D, Pl, rfl, _, hlc, hcm, hm, _, hi⟩
  · exact ⟨[], _, rfl, ⟨none, 0, rfl, Nat.le_refl _, fun i row h => by simp at h⟩, by simp, fun a h => by simp at h⟩
  · have hlm : len ≤ m := by rw [hm]; split <;> omega
    have key : ∀ i, i < len → ∃ a', good a' ∧ ∃ cs', RowOk w (g a') cs' ∧ w.cells? base (a.add (i * E)) E = some cs' := fun i hil => by
      obtain ⟨cs', h1, h2⟩ := hi i (by omega)
      rw [hC] at h1
      obtain ⟨a', h3, h4⟩ := hel _ _ _ h2
      exact ⟨a', h3, cs', h4, h1⟩
    let A : Nat → α := fun i => if h : i < len then (key i h).choose else default
    have hA : ∀ i, i < len → good (A i) ∧ ∃ cs', RowOk w (g (A i)) cs' ∧ w.cells? base (a.add (i * E)) E = some cs' := fun i hil => by
      have := (key i hil).choose_spec
      simp only [A, dif_pos hil]; exact this
    refine ⟨(List.range len).map A, _, rfl, ⟨some a, cap, by simp, by simpa using hlc, fun i row hrow => ?_⟩, by simp; omega, fun x hx => ?_⟩
    · simp only [List.getElem?_map, Option.map_eq_some_iff, List.map_map] at hrow
      obtain ⟨i', hi', rfl⟩ := hrow
      have hil : i < len := by have := (List.getElem?_eq_some_iff.1 hi').1; simpa using this
      have : i' = i := by rw [List.getElem?_range hil] at hi'; simpa using hi'.symm
      subst this
      obtain ⟨_, cs', hro, hcs⟩ := hA _ hil
      obtain ⟨_, hlen, hat⟩ := World.cells?_some hcs
      obtain ⟨cs0, hro0, hcs0⟩ := (hA 0 (by omega)).2
      obtain ⟨_, hlen0, hat0⟩ := World.cells?_some hcs0
      have h0 := hat0 0 hE
      have hc0 : cs0[0]? = some (cs0[0]'(by omega)) := by simp
      rw [hc0] at h0
      obtain ⟨ab, ao, asp⟩ := a
      have hsp : asp = none := by
        have := World.cell?_spot h0
        simpa [Addr.add] using this
      subst hsp
      refine ⟨ab, ao, rfl, hg _, fun j c hj => ?_⟩
      obtain ⟨y, hy, hrd⟩ := hro.2 j c hj
      have hjE : j < E := by rw [← hg (A i')]; exact (List.getElem?_eq_some_iff.1 hj).1
      have h1 := hat j hjE
      rw [hy, add_none, add_none] at h1
      exact ⟨y, cellIn_of h1, hrd⟩
    · obtain ⟨i, hi, rfl⟩ := List.mem_map.1 hx
      exact (hA i (by simpa using hi)).1
/-- A slice of flat elements, as a cell. -/
theorem rdFlat_of {r : Nat → Option Obj} {E : Nat} {rows : List (List Value)} {u : Value} (h : RdRow r E (rows.map (·.map Cell.v)) u) : RdFlat r E rows u := by
  obtain ⟨A, c, rfl, hn, hi⟩ := h
  rw [List.length_map] at *
  refine ⟨A, c, rfl, hn, fun i row hr => ?_⟩
  obtain ⟨b, o, h1, h2, h3⟩ := hi i (row.map Cell.v) (by simp [hr])
  refine ⟨b, o, h1, by simpa using h2, fun j x hj => ?_⟩
  obtain ⟨y, hy, hc⟩ := h3 j (.v x) (by simp [hj])
  rw [hy]; exact congrArg some hc
theorem open_int1 {t : TypeId} {fuel : Nat} {cs : List Value} {x : DataW H × List MemPlace} (ht : P.underlying t = some (.int .i64)) (h : DataW.trod enc P w base spare held fuel t cs = some x) : ∃ n : Int, In64 n ∧ cs = [.int .i64 n] := by
  obtain ⟨n, rfl, _, hw⟩ := DataW.trod_int ht h
  refine ⟨n, ?_, rfl⟩
  have : -9223372036854775808 ≤ n ∧ n ≤ 9223372036854775807 := by simpa [Lit.wf, IntKind.min, IntKind.max, IntKind.signed, IntKind.bits] using hw
  unfold In64; omega
theorem open_str1 {t : TypeId} {fuel : Nat} {cs : List Value} {x : DataW H × List MemPlace} (ht : P.underlying t = some .string) (h : DataW.trod enc P w base spare held fuel t cs = some x) : ∃ b : List UInt8, b.length ≤ maxLen ∧ cs = [.string ⟨b.toArray⟩] := by
  obtain ⟨s, rfl, _, hl⟩ := DataW.trod_string ht h
  exact ⟨s.data.toList, hl, by simp⟩
end
end Go.Eng
