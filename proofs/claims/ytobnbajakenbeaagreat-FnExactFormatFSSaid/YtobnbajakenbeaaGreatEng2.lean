/- A walk over the code of a program, as a proposition whose rules are equations, and that it is sound. No condition. -/
import Derived.Test.YtobnbajakenbeaaGreatEng1
set_option linter.all false
set_option linter.defProp false
/- The engine, part L: the walk is sound. -/
set_option linter.unusedVariables false
set_option linter.unusedSimpArgs false
namespace Go.Eng
open Go

variable {P : Program} {K : St → Prop}

section
variable {B : Base} {Q : Exit → Act → World → Prop}
theorem den_ret : ∀ (S : List Fr) {a : Act} {w : World}, Q .ret a w → den P B Q S .ret a w
  | [], _, _, h => h
  | .code c :: S, _, _, h => by simp only [den, Exit.then]; exact den_ret S h
  | .endb id :: S, _, _, h => by simp only [den, Exit.inBlock]; exact den_ret S h
  | .ops _ _ _ :: S, _, _, h => by simp only [den, Exit.then]; exact den_ret S h
  | .back _ _ _ :: S, _, _, h => by simp only [den, Exit.then]; exact den_ret S h
theorem den_exit {id : Nat} : ∀ {S S' : List Fr} {a : Act} {w : World}, popTo id S = some S' → den P B Q S' .normal a w → den P B Q S (.exit id) a w
  | [], _, _, _, h, _ => by simp [popTo] at h
  | .endb i :: S, S', a, w, h, hd => by
    simp only [popTo] at h
    simp only [den, Exit.inBlock]
    split at h
    · rename_i he; subst he
      simp only [Option.some.injEq] at h; subst h
      simpa using hd
    · rename_i he
      rw [if_neg (Ne.symm he)]
      exact den_exit h hd
  | .code c :: S, S', a, w, h, hd => by simp only [popTo] at h; simp only [den, Exit.then]; exact den_exit h hd
  | .ops _ _ _ :: S, S', a, w, h, hd => by simp only [popTo] at h; simp only [den, Exit.then]; exact den_exit h hd
  | .back _ _ _ :: S, S', a, w, h, hd => by simp only [popTo] at h; simp only [den, Exit.then]; exact den_exit h hd
end

theorem GoodB.plain {B : Base} {Q : Exit → Act → World → Prop} {S : List Fr} {s : St} (hq : ∀ all l S', S ≠ .ops true all l :: S') : GoodB P B Q S s = ∀ m a w, Sat B m s a w → den P B Q S .normal a w := by
  unfold GoodB
  split
  · rename_i all l S' ; exact absurd rfl (hq _ _ _)
  · rfl

theorem putO_sat {B : Base} {m : Mem} {s : St} {a : Act} {w : World} (h : Sat B m s a w) {d : Option Tmp} (hd : dstN s d) {c : Bool} {x : AV} {u : Value} (h1 : c = true → Ok m x u) (h2 : c = false → u = undef) : Sat B m (s.putO d c x) (a.put d u) w := by
  cases d with
  | none => exact h
  | some d => exact h.put hd h1 h2

theorem memOp_sound {B : Base} {m : Mem} {s : St} {a : Act} {w : World} {o : Oper} {safe : Prop} {s' : St} {av : AV} (hp : memOp P s o.op = some (safe, s', av)) (hs : safe) (h : Sat B m s a w) :
    s'.N = s.N ∧ ∃ n u w1 m', (execOp a.eval o).run P w = .ok n w1 ∧ (n = .value u ∨ (n = .skip ∧ u = undef)) ∧ Ok m' av u ∧ Sat B m' s' a w1 := by
  unfold memOp at hp
  cases hn : newOp P s o.op with
  | some p =>
    obtain ⟨safe0, ch, av0⟩ := p
    rw [hn] at hp
    simp only [Option.some.injEq, Prod.mk.injEq] at hp
    obtain ⟨rfl, rfl, rfl⟩ := hp
    obtain ⟨u, w1, m', h1, h2, h3, _⟩ := newOp_sound hn hs h
    exact ⟨rfl, _, u, w1, m', h1, .inl rfl, h2, h3⟩
  | none =>
    rw [hn] at hp
    simp only at hp
    split at hp
    · rename_i t p x ho
      split at hp
      · cases hp
      simp only [Option.some.injEq, Prod.mk.injEq] at hp
      obtain ⟨rfl, rfl, rfl⟩ := hp
      obtain ⟨⟨p1, p2⟩, p3⟩ := hs
      obtain ⟨w', h1, h2⟩ := store_run h (ev_ok h p p1) (ev_ok h x p2) p3
      refine ⟨rfl, .skip, undef, w', m, ?_, .inr ⟨rfl, rfl⟩, ok_bad, h2⟩
      simp [execOp, ho, h1]
    · rename_i x y t t2 ho
      split at hp
      · cases hp
      simp only [Option.some.injEq, Prod.mk.injEq] at hp
      obtain ⟨rfl, rfl, rfl⟩ := hp
      obtain ⟨⟨p1, p2⟩, p3⟩ := hs
      obtain ⟨z, w', m', h1, h2, h3⟩ := app_run (ty := o.type) h (ev_ok h x p1) (ev_ok h y p2) p3
      refine ⟨?_, .value z, z, w', m', run_builtin ho fun cs => ?_, .inl rfl, h2, h3⟩
      · have e1 := h3.size; rw [h.size] at e1; exact e1.symm
      · have := run_v h1
        exact this
    · rename_i x y t t2 ho
      simp only [Option.some.injEq, Prod.mk.injEq] at hp
      obtain ⟨rfl, rfl, rfl⟩ := hp
      obtain ⟨⟨p1, p2⟩, p3⟩ := hs
      obtain ⟨w', h1, h2⟩ := copy_run (ty := o.type) h (ev_ok h x p1) (ev_ok h y p2) p3
      refine ⟨rfl, .value _, _, w', m, run_builtin ho fun cs => ?_, .inl rfl, ok_v.2 rfl, h2⟩
      have := run_v h1
      exact this
    · simp at hp

/-! ### The walk's equations -/
section
variable (s : St) (S : List Fr)
theorem V_nil : V P K [] s = K s := by rw [V.eq_def]
theorem V_endb (id : Nat) : V P K (.endb id :: S) s = V P K S s := by rw [V.eq_def]
theorem V_seq (a b : Code) : V P K (.code (.seq a b) :: S) s = V P K (.code a :: .code b :: S) s := by rw [V.eq_def]
theorem V_skip : V P K (.code .skip :: S) s = V P K S s := by rw [V.eq_def]
theorem V_ret : V P K (.code .ret :: S) s = K s := by rw [V.eq_def]
theorem V_cond (c : Operand) (a b : Code) : V P K (.code (.cond c a b) :: S) s = ((s.ev c).1 = true ∧ (s.ev c).2.boolP ∧ ((s.ev c).2.boolV = true → V P K (.code a :: S) s) ∧ ((s.ev c).2.boolV = false → V P K (.code b :: S) s)) := by rw [V.eq_def]
theorem V_block (id : Nat) (c : Code) : V P K (.code (.block id c) :: S) s = V P K (.code c :: .endb id :: S) s := by rw [V.eq_def]
def VO (P : Program) (K : St → Prop) : Option (List Fr) → St → Prop
  | some S, s => V P K S s
  | none, _ => False
theorem VO_some : VO P K (some S) s = V P K S s := rfl
theorem V_exit (id : Nat) : V P K (.code (.exit id) :: S) s = VO P K (popTo id S) s := by
  rw [V.eq_def]
  simp only
  split <;> rename_i h <;> rw [h] <;> rfl
theorem V_region (id : Nat) (l : List Oper) : V P K (.code (.region id ⟨l⟩ false) :: S) s = V P K (.ops false l l :: S) s := by rw [V.eq_def]
def VQ (P : Program) (K : St → Prop) (id : Nat) (l : List Oper) (S : List Fr) (s : St) : Bool → Prop
  | true => Good P K (.code (.region id ⟨l⟩ true) :: S) s
  | false => Region.lexB .any ⟨l⟩ = true ∧ V P K (.ops true l l :: S) s
theorem VQ_f (id : Nat) (l : List Oper) : VQ P K id l S s false = (Region.lexB .any ⟨l⟩ = true ∧ V P K (.ops true l l :: S) s) := rfl
theorem V_regionQ (id : Nat) (l : List Oper) : V P K (.code (.region id ⟨l⟩ true) :: S) s = VQ P K id l S s (hasNews P l) := by
  rw [V.eq_def]
  simp only
  cases hasNews P l <;> rfl
theorem V_opsnil (q : Bool) (all : List Oper) : V P K (.ops q all [] :: S) s = V P K S s := by rw [V.eq_def]
theorem V_loop (c : Code) : V P K (.code (.loop c) :: S) s = Good P K (.code (.loop c) :: S) s := by rw [V.eq_def]
theorem V_back {ι : Type} (head : ι → St) (μ : ι → Nat) (m : Nat) : V P K (.back head μ m :: S) s = Good P K (.back head μ m :: S) s := by rw [V.eq_def]
theorem V_ops (q : Bool) (all r : List Oper) (o : Oper) : V P K (.ops q all (o :: r) :: S) s = (match pureOp P s o.op with
    | some (safe, av) => s.gOk all o.guard ∧ dstN s o.dst ∧ (s.G all o.guard = true → safe) ∧ V P K (.ops q all r :: S) (s.putO o.dst (s.G all o.guard) av)
    | none => if q = true then Good P K (.ops q all (o :: r) :: S) s else match memOp P s o.op with
      | some (safe, s', av) => s.gOk all o.guard ∧ dstN s o.dst ∧ (s.G all o.guard = true → safe ∧ V P K (.ops q all r :: S) (s'.putO o.dst true av)) ∧ (s.G all o.guard = false → V P K (.ops q all r :: S) (s.putO o.dst false .bad))
      | none => Good P K (.ops q all (o :: r) :: S) s) := by
  rw [V.eq_def]
  dsimp only
  rfl
end

theorem good_of_den {S : List Fr} {s : St} (hq : ∀ all l S', S ≠ .ops true all l :: S') (h : ∀ (B : Base) (Q : Exit → Act → World → Prop), (∀ m s a w, Sat B m s a w → K s → Q .ret a w ∧ Q .normal a w) → ∀ m a w, Sat B m s a w → den P B Q S .normal a w) : Good P K S s :=
  fun B Q hQ => by rw [GoodB.plain hq]; exact h B Q hQ
/-- Going on with the rest in a state that is known to hold. -/
theorem Good.use {S : List Fr} {s : St} {B : Base} {Q : Exit → Act → World → Prop} (h : Good P K S s) (hQ : ∀ m s a w, Sat B m s a w → K s → Q .ret a w ∧ Q .normal a w) (hq : ∀ all l S', S ≠ .ops true all l :: S') {m : Mem} {a : Act} {w : World} (hs : Sat B m s a w) : den P B Q S .normal a w := by
  have := h B Q hQ
  rw [GoodB.plain hq] at this
  exact this m a w hs

/-- What stands behind a piece of code may not be the middle of a region. -/
def okS : List Fr → Prop
  | .ops true _ _ :: _ => False
  | _ => True
theorem okS_ne {S : List Fr} (h : okS S) : ∀ all l S', S ≠ .ops true all l :: S' := fun all l S' he => by subst he; exact h
/-- Every rest of the walk is well formed: a region's middle stands only at its head. -/
def wfS : List Fr → Prop
  | [] => True
  | .ops _ _ _ :: _ => False
  | _ :: S => wfS S
theorem wfS_ok {S : List Fr} (h : wfS S) : okS S := by
  cases S with
  | nil => trivial
  | cons f S => cases f <;> first | trivial | exact h.elim
theorem wfS_pop {id : Nat} : ∀ {S S' : List Fr}, popTo id S = some S' → wfS S → wfS S'
  | [], _, h, _ => by simp [popTo] at h
  | .endb i :: S, S', h, hw => by
    simp only [popTo] at h
    simp only [wfS] at hw
    split at h
    · simp only [Option.some.injEq] at h; subst h; exact hw
    · exact wfS_pop h hw
  | .code c :: S, S', h, hw => by simp only [popTo] at h; simp only [wfS] at hw; exact wfS_pop h hw
  | .ops q all l :: S, S', h, hw => by simp only [wfS] at hw
  | .back hd μ m :: S, S', h, hw => by simp only [popTo] at h; simp only [wfS] at hw; exact wfS_pop h hw
def wfT : List Fr → Prop
  | .ops _ _ _ :: S => wfS S
  | S => wfS S

theorem V_sound (hm : P.follows .mixedOrders = true) : ∀ (n : Nat) (S : List Fr) (s : St), ssz S ≤ n → wfT S → V P K S s → Good P K S s := by
  intro n
  induction n with
  | zero =>
    intro S s hn _ h
    cases S with
    | nil =>
      rw [V_nil] at h
      exact good_of_den (by simp) fun B Q hQ m a w hs => (hQ m s a w hs h).2
    | cons f S =>
      exfalso
      cases f <;> simp only [ssz, fsz] at hn
      · have := csz_pos ‹Code›; omega
      · omega
      · omega
      · omega
  | succ n ih =>
    intro S s hn hw h
    cases S with
    | nil =>
      rw [V_nil] at h
      exact good_of_den (by simp) fun B Q hQ m a w hs => (hQ m s a w hs h).2
    | cons f S =>
      cases f with
      | endb id =>
        rw [V_endb] at h
        simp only [ssz, fsz] at hn
        simp only [wfT, wfS] at hw
        have hwT : wfT S := by cases S with
          | nil => trivial
          | cons f S => cases f <;> first | exact hw | exact hw.elim
        have hg := ih S s (by omega) hwT h
        exact good_of_den (by simp) fun B Q hQ m a w hs => by simp only [den, Exit.inBlock]; exact hg.use hQ (okS_ne (wfS_ok hw)) hs
      | back hd μ m => rw [V_back] at h; exact h
      | ops q all l =>
        simp only [ssz, fsz] at hn
        simp only [wfT] at hw
        cases l with
        | nil =>
          rw [V_opsnil] at h
          have hwT : wfT S := by cases S with
            | nil => trivial
            | cons f S => cases f <;> first | exact hw | exact hw.elim
          have hg := ih S s (by simp only [List.length_nil] at hn; omega) hwT h
          intro B Q hQ
          cases q with
          | true =>
            simp only [GoodB]
            intro m a w hs
            refine wpQuiet_nil fun w' hb => ?_
            exact hg.use hQ (okS_ne (wfS_ok hw)) (hs.below hb)
          | false =>
            rw [GoodB.plain (by simp)]
            intro m a w hs
            simp only [den, Exit.then]
            exact wpList_nil (hg.use hQ (okS_ne (wfS_ok hw)) hs)
        | cons o r =>
          simp only [List.length_cons] at hn
          rw [V_ops] at h
          cases hp : pureOp P s o.op with
          | some p =>
            obtain ⟨safe, av⟩ := p
            rw [hp] at h
            obtain ⟨h1, h2, h3, h4⟩ := h
            have hg := ih (.ops q all r :: S) _ (by simp only [ssz, fsz]; omega) (by simpa only [wfT] using hw) h4
            have step : ∀ (B : Base) m a w, Sat B m s a w → (Region.wanted o (yielded all.toArray a.tmps) = true → ∃ u, (∀ w', RowKit.Below w.heap.size w w' → (execOp a.eval o).run P w' = .ok (.value u) w') ∧ Sat B m (s.putO o.dst (s.G all o.guard) av) (a.put o.dst u) w) ∧
                (Region.wanted o (yielded all.toArray a.tmps) = false → Sat B m (s.putO o.dst (s.G all o.guard) av) (a.put o.dst undef) w) := by
              intro B m a w hs
              have hwt := wanted_eq hs all.toArray o (by simpa using h1)
              rw [List.toList_toArray] at hwt
              refine ⟨fun hwn => ?_, fun hwn => ?_⟩
              · rw [hwt] at hwn
                obtain ⟨u, g1, g2⟩ := pure_sound hp (h3 hwn) hs
                exact ⟨u, g2, putO_sat hs h2 (fun _ => g1) (fun hc => by rw [hwn] at hc; simp at hc)⟩
              · rw [hwt] at hwn
                exact putO_sat hs h2 (fun hc => by rw [hwn] at hc; simp at hc) (fun _ => rfl)
            intro B Q hQ
            have hgB := hg B Q hQ
            cases q with
            | true =>
              simp only [GoodB] at hgB ⊢
              intro m a w hs
              obtain ⟨s1, s2⟩ := step B m a w hs
              unfold wpQuiet
              split
              · rename_i hwn
                obtain ⟨u, g1, g2⟩ := s1 hwn
                refine ⟨u, fun w' hb => ?_, hgB m _ w g2⟩
                unfold Oper.quietAt
                rw [g1 w' hb]
                exact ⟨rfl, rfl⟩
              · rename_i hwn
                exact hgB m _ w (s2 (by simpa using hwn))
            | false =>
              rw [GoodB.plain (by simp)] at hgB ⊢
              intro m a w hs
              obtain ⟨s1, s2⟩ := step B m a w hs
              simp only [den, Exit.then] at hgB ⊢
              unfold wpList
              split
              · rename_i hwn
                obtain ⟨u, g1, g2⟩ := s1 hwn
                refine .inl ?_
                unfold Oper.wp
                rw [g1 w (RowKit.Below.refl _ _)]
                exact hgB m _ w g2
              · rename_i hwn
                exact hgB m _ w (s2 (by simpa using hwn))
          | none =>
            rw [hp] at h
            simp only at h
            split at h
            · rename_i hq; exact h
            · rename_i hq
              cases hmo : memOp P s o.op with
              | none => rw [hmo] at h; exact h
              | some p =>
                obtain ⟨safe, s', av⟩ := p
                rw [hmo] at h
                obtain ⟨h1, h2, h3, h4⟩ := h
                have hq' : q = false := by simpa using hq
                subst hq'
                refine good_of_den (by simp) fun B Q hQ m a w hs => ?_
                have hwt := wanted_eq hs all.toArray o (by simpa using h1)
                rw [List.toList_toArray] at hwt
                simp only [den, Exit.then]
                unfold wpList
                split
                · rename_i hwn
                  rw [hwt] at hwn
                  obtain ⟨g1, g2⟩ := h3 hwn
                  have hg := ih (.ops false all r :: S) _ (by simp only [ssz, fsz]; omega) (by simpa only [wfT] using hw) g2
                  obtain ⟨hN, nx, u, w1, m', k1, k2, k3, k4⟩ := memOp_sound hmo g1 hs
                  have hd' : dstN s' o.dst := by cases hd : o.dst with
                    | none => trivial
                    | some d => rw [hd] at h2; simp only [dstN] at h2 ⊢; rw [hN]; exact h2
                  have hsat := putO_sat (c := true) (x := av) (u := u) k4 hd' (fun _ => k3) (fun hc => by simp at hc)
                  have := hg.use hQ (by simp) hsat
                  simp only [den, Exit.then] at this
                  refine .inl ?_
                  unfold Oper.wp
                  rw [k1]
                  rcases k2 with rfl | ⟨rfl, rfl⟩
                  · exact this
                  · exact this
                · rename_i hwn
                  rw [hwt] at hwn
                  have hwn' : s.G all o.guard = false := by simpa using hwn
                  have hg := ih (.ops false all r :: S) _ (by simp only [ssz, fsz]; omega) (by simpa only [wfT] using hw) (h4 hwn')
                  have hsat := putO_sat (c := false) (x := .bad) (u := undef) hs h2 (fun hc => by simp at hc) (fun _ => rfl)
                  have := hg.use hQ (by simp) hsat
                  simp only [den, Exit.then] at this
                  exact this
      | code c =>
        simp only [ssz, fsz] at hn
        simp only [wfT, wfS] at hw
        have hwT : wfT S := by cases S with
          | nil => trivial
          | cons f S => cases f <;> first | exact hw | exact hw.elim
        cases c with
        | skip =>
          rw [V_skip] at h
          simp only [csz] at hn
          have hg := ih S s (by omega) hwT h
          exact good_of_den (by simp) fun B Q hQ m a w hs => by
            simp only [den, Exit.then]
            exact wp_skip (hg.use hQ (okS_ne (wfS_ok hw)) hs)
        | ret =>
          rw [V_ret] at h
          exact good_of_den (by simp) fun B Q hQ m a w hs => by
            simp only [den, Exit.then]
            exact wp_ret (den_ret S (hQ m s a w hs h).1)
        | seq x y =>
          rw [V_seq] at h
          simp only [csz] at hn
          have hg := ih (.code x :: .code y :: S) s (by simp only [ssz, fsz]; omega) hw h
          exact good_of_den (by simp) fun B Q hQ m a w hs => by
            have := hg.use hQ (by simp) hs
            simp only [den, Exit.then] at this ⊢
            exact wp_seq this
        | cond cc x y =>
          rw [V_cond] at h
          simp only [csz] at hn
          obtain ⟨h1, h2, h3, h4⟩ := h
          exact good_of_den (by simp) fun B Q hQ m a w hs => by
            simp only [den, Exit.then]
            have hb := boolV_ok (ev_ok hs cc h1) h2
            refine wp_cond_split hb (fun ht => ?_) (fun hf => ?_)
            · have hg := ih (.code x :: S) s (by simp only [ssz, fsz]; omega) hw (h3 ht)
              have := hg.use hQ (by simp) hs
              simpa only [den, Exit.then] using this
            · have hg := ih (.code y :: S) s (by simp only [ssz, fsz]; omega) hw (h4 hf)
              have := hg.use hQ (by simp) hs
              simpa only [den, Exit.then] using this
        | block id x =>
          rw [V_block] at h
          simp only [csz] at hn
          have hg := ih (.code x :: .endb id :: S) s (by simp only [ssz, fsz]; omega) hw h
          exact good_of_den (by simp) fun B Q hQ m a w hs => by
            have := hg.use hQ (by simp) hs
            simp only [den, Exit.then] at this ⊢
            refine wp_block (Code.wp_mono (fun e a w hq => ?_) this)
            cases e <;> exact hq
        | exit id =>
          rw [V_exit] at h
          simp only [csz] at hn
          cases hpop : popTo id S with
          | none => rw [hpop] at h; exact h.elim
          | some S' =>
            rw [hpop, VO_some] at h
            have hw' := wfS_pop hpop hw
            have hwT' : wfT S' := by cases S' with
              | nil => trivial
              | cons f S => cases f <;> first | exact hw' | exact hw'.elim
            have hg := ih S' s (by have := ssz_pop hpop; omega) hwT' h
            exact good_of_den (by simp) fun B Q hQ m a w hs => by
              simp only [den, Exit.then]
              exact wp_exit (den_exit hpop (hg.use hQ (okS_ne (wfS_ok hw')) hs))
        | region id ops draw =>
          obtain ⟨l⟩ := ops
          simp only [csz] at hn
          cases draw with
          | false =>
            rw [V_region] at h
            have hg := ih (.ops false l l :: S) s (by simp only [ssz, fsz]; omega) hw h
            exact good_of_den (by simp) fun B Q hQ m a w hs => by
              have := hg.use hQ (by simp) hs
              simp only [den, Exit.then] at this ⊢
              exact wp_region_list this
          | true =>
            rw [V_regionQ] at h
            cases hnw : hasNews P l with
            | true => rw [hnw] at h; exact h
            | false =>
            rw [hnw, VQ_f] at h
            obtain ⟨hB, h⟩ := h
            have hg := ih (.ops true l l :: S) s (by simp only [ssz, fsz]; omega) hw h
            refine good_of_den (by simp) fun B Q hQ m a w hs => ?_
            have hd : RowKit.Below w.heap.size w { w with drawn := w.drawn + 1 } := (RowKit.Below.refl _ _).drew
            have := hg B Q hQ
            simp only [GoodB] at this
            have := this _ a _ (hs.below hd)
            simp only [den, Exit.then] at this ⊢
            refine wp_region_quiet (C := fun w' => RowKit.Below w.heap.size { w with drawn := w.drawn + 1 } w') hm hB (RowKit.Below.refl _ _) ?_
            exact this
        | loop c => rw [V_loop] at h; exact h
        | rangeFunc f ps x y => rw [V.eq_def] at h; exact h
        | scope c => rw [V.eq_def] at h; exact h
        | label l => rw [V.eq_def] at h; exact h
        | goto l => rw [V.eq_def] at h; exact h
        | refuse w => rw [V.eq_def] at h; exact h

end Go.Eng

/- The engine, part M: the walk, one operation at a time, and the bundles of rewriting rules. -/
set_option linter.unusedVariables false
set_option linter.unusedSimpArgs false
namespace Go.Eng
open Go

variable {P : Program} {K : St → Prop}

section
variable (s : St) (S : List Fr) (q : Bool) (all r : List Oper) (d : Option Tmp) (ty : TypeId) (ps : String) (af : Array Edge) (g : Option (Nat × Bool))
theorem V_move (x : Operand) : V P K (.ops q all (⟨d, .move x, ty, ps, af, g⟩ :: r) :: S) s = (s.gOk all g ∧ dstN s d ∧ (s.G all g = true → (s.ev x).1 = true) ∧ V P K (.ops q all r :: S) (s.putO d (s.G all g) ((s.ev x).2))) := by rw [V_ops]; rfl
theorem V_assign (x : Operand) : V P K (.ops q all (⟨d, .assign x, ty, ps, af, g⟩ :: r) :: S) s = (s.gOk all g ∧ dstN s d ∧ (s.G all g = true → (s.ev x).1 = true) ∧ V P K (.ops q all r :: S) (s.putO d (s.G all g) ((s.ev x).2))) := by rw [V_ops]; rfl
theorem V_pick (c a b : Operand) : V P K (.ops q all (⟨d, .pick c a b, ty, ps, af, g⟩ :: r) :: S) s = (s.gOk all g ∧ dstN s d ∧ (s.G all g = true → pickP (s.ev c) (s.ev a) (s.ev b)) ∧ V P K (.ops q all r :: S) (s.putO d (s.G all g) (pickAV (s.ev c).2 (s.ev a).2 (s.ev b).2))) := by rw [V_ops]; rfl
theorem V_bin (op : BinOp) (t t3 : TypeId) (x y : Operand) : V P K (.ops q all (⟨d, .binOp op t x y t3, ty, ps, af, g⟩ :: r) :: S) s = (s.gOk all g ∧ dstN s d ∧ (s.G all g = true → ((s.ev x).1 = true ∧ (s.ev y).1 = true) ∧ binP P t op (s.ev x).2 (s.ev y).2) ∧ V P K (.ops q all r :: S) (s.putO d (s.G all g) (binAV op (s.ev x).2 (s.ev y).2))) := by rw [V_ops]; rfl
theorem V_un (op : UnOp) (t : TypeId) (x : Operand) : V P K (.ops q all (⟨d, .unOp op t x, ty, ps, af, g⟩ :: r) :: S) s = (s.gOk all g ∧ dstN s d ∧ (s.G all g = true → (s.ev x).1 = true ∧ unP op (s.ev x).2) ∧ V P K (.ops q all r :: S) (s.putO d (s.G all g) (unAV op (s.ev x).2))) := by rw [V_ops]; rfl
theorem V_fieldAddr (t : TypeId) (x : Operand) (f : Nat) : V P K (.ops q all (⟨d, .fieldAddr t x f, ty, ps, af, g⟩ :: r) :: S) s = (s.gOk all g ∧ dstN s d ∧ (s.G all g = true → (s.ev x).1 = true ∧ (fldT P t f).isSome = true ∧ isPtrAV (s.ev x).2) ∧ V P K (.ops q all r :: S) (s.putO d (s.G all g) (fldAV ((fldT P t f).getD 0) (s.ev x).2))) := by rw [V_ops]; rfl
theorem V_indexAddr (t : TypeId) (x i : Operand) : V P K (.ops q all (⟨d, .indexAddr t x i, ty, ps, af, g⟩ :: r) :: S) s = (s.gOk all g ∧ dstN s d ∧ (s.G all g = true → ((s.ev x).1 = true ∧ (s.ev i).1 = true) ∧ ixaP P t (s.ev x).2 (s.ev i).2) ∧ V P K (.ops q all r :: S) (s.putO d (s.G all g) (ixaAV (s.ev x).2 (s.ev i).2.intV.toNat))) := by rw [V_ops]; rfl
theorem V_index (t : TypeId) (x i : Operand) : V P K (.ops q all (⟨d, .index t x i, ty, ps, af, g⟩ :: r) :: S) s = (s.gOk all g ∧ dstN s d ∧ (s.G all g = true → ((s.ev x).1 = true ∧ (s.ev i).1 = true) ∧ idxP P t (s.ev x).2 (s.ev i).2) ∧ V P K (.ops q all r :: S) (s.putO d (s.G all g) (idxAV (s.ev x).2 (s.ev i).2))) := by rw [V_ops]; rfl
theorem V_load (t : TypeId) (x : Operand) : V P K (.ops q all (⟨d, .load t x, ty, ps, af, g⟩ :: r) :: S) s = (s.gOk all g ∧ dstN s d ∧ (s.G all g = true → (s.ev x).1 = true ∧ ((szT P t).isSome = true ∧ (P.underlying t).isSome = true) ∧ loadP P s.h t (s.ev x).2) ∧ V P K (.ops q all r :: S) (s.putO d (s.G all g) (loadAV P s.h t (s.ev x).2))) := by rw [V_ops]; rfl
theorem V_slice (t : TypeId) (x : Operand) (lo hi : Option Operand) : V P K (.ops q all (⟨d, .slice t x lo hi none, ty, ps, af, g⟩ :: r) :: S) s = (s.gOk all g ∧ dstN s d ∧ (s.G all g = true → (s.ev x).1 = true ∧ optP s lo ∧ optP s hi ∧ cutP P t (s.ev x).2 (optV s 0 lo) (optV s (lenAV (s.ev x).2) hi)) ∧ V P K (.ops q all r :: S) (s.putO d (s.G all g) (cutAV (s.ev x).2 (optV s 0 lo).toNat (optV s (lenAV (s.ev x).2) hi).toNat))) := by rw [V_ops]; rfl
theorem V_extract (x : Operand) (i : Nat) : V P K (.ops q all (⟨d, .extract x i, ty, ps, af, g⟩ :: r) :: S) s = (s.gOk all g ∧ dstN s d ∧ (s.G all g = true → (s.ev x).1 = true ∧ extP i (s.ev x).2) ∧ V P K (.ops q all r :: S) (s.putO d (s.G all g) (extAV i (s.ev x).2))) := by rw [V_ops]; rfl
theorem V_field (t : TypeId) (x : Operand) (f : Nat) : V P K (.ops q all (⟨d, .field t x f, ty, ps, af, g⟩ :: r) :: S) s = (s.gOk all g ∧ dstN s d ∧ (s.G all g = true → (s.ev x).1 = true ∧ fieldP P t f (s.ev x).2) ∧ V P K (.ops q all r :: S) (s.putO d (s.G all g) (fieldAV P t f (s.ev x).2))) := by rw [V_ops]; rfl
theorem V_nilCheck (x : Operand) : V P K (.ops q all (⟨d, .nilCheck x, ty, ps, af, g⟩ :: r) :: S) s = (s.gOk all g ∧ dstN s d ∧ (s.G all g = true → (s.ev x).1 = true ∧ isPtrAV (s.ev x).2) ∧ V P K (.ops q all r :: S) (s.putO d (s.G all g) ((s.ev x).2))) := by rw [V_ops]; rfl
theorem V_len (x : Operand) (t : TypeId) : V P K (.ops q all (⟨d, .call ⟨.builtin .len, ⟨[x]⟩, ⟨[t]⟩⟩, ty, ps, af, g⟩ :: r) :: S) s = (s.gOk all g ∧ dstN s d ∧ (s.G all g = true → (s.ev x).1 = true ∧ lenP P t (s.ev x).2) ∧ V P K (.ops q all r :: S) (s.putO d (s.G all g) (.v (.int .i64 (lenAV (s.ev x).2))))) := by rw [V_ops]; rfl
theorem V_min (x y : Operand) (ts : Array TypeId) : V P K (.ops q all (⟨d, .call ⟨.builtin .min, ⟨[x, y]⟩, ts⟩, ty, ps, af, g⟩ :: r) :: S) s = (s.gOk all g ∧ dstN s d ∧ (s.G all g = true → ((s.ev x).1 = true ∧ (s.ev y).1 = true) ∧ int2P (s.ev x).2 (s.ev y).2) ∧ V P K (.ops q all r :: S) (s.putO d (s.G all g) (mmAV false (s.ev x).2 (s.ev y).2))) := by rw [V_ops]; rfl
theorem V_max (x y : Operand) (ts : Array TypeId) : V P K (.ops q all (⟨d, .call ⟨.builtin .max, ⟨[x, y]⟩, ts⟩, ty, ps, af, g⟩ :: r) :: S) s = (s.gOk all g ∧ dstN s d ∧ (s.G all g = true → ((s.ev x).1 = true ∧ (s.ev y).1 = true) ∧ int2P (s.ev x).2 (s.ev y).2) ∧ V P K (.ops q all r :: S) (s.putO d (s.G all g) (mmAV true (s.ev x).2 (s.ev y).2))) := by rw [V_ops]; rfl
theorem V_makeFunc (f : FuncId) (cs : List Operand) : V P K (.ops q all (⟨d, .makeFunc (.func f) ⟨[]⟩ ⟨cs⟩, ty, ps, af, g⟩ :: r) :: S) s = (s.gOk all g ∧ dstN s d ∧ (s.G all g = true → evsP s cs) ∧ V P K (.ops q all r :: S) (s.putO d (s.G all g) (.fn f (evs s cs)))) := by rw [V_ops]; rfl
theorem V_build (t : TypeId) (pp : List (Nat × Operand)) : V P K (.ops q all (⟨d, .build t ⟨pp⟩, ty, ps, af, g⟩ :: r) :: S) s = (s.gOk all g ∧ dstN s d ∧ (s.G all g = true → ((plT P t).isSome = true ∧ (zeroT P t).isSome = true) ∧ buildP s ((plT P t).getD []) (zcells P t).length pp) ∧ V P K (.ops q all r :: S) (s.putO d (s.G all g) (.agg (buildL s ((plT P t).getD []) ((zcells P t).map .v) pp)))) := by rw [V_ops]; rfl
theorem V_convert (src dst : TypeId) (x : Operand) (hb : (strT P src && bytesT P dst) = false) : V P K (.ops q all (⟨d, .convert src dst x, ty, ps, af, g⟩ :: r) :: S) s = (s.gOk all g ∧ dstN s d ∧ (s.G all g = true → (s.ev x).1 = true ∧ convP P s.h src dst (s.ev x).2) ∧ V P K (.ops q all r :: S) (s.putO d (s.G all g) (convAV P s.h src dst (s.ev x).2))) := by
  rw [V_ops]
  have : ¬ (strT P src = true ∧ bytesT P dst = true) := by simpa using hb
  simp only [pureOp, if_neg this]
theorem V_box (e : TypeId) (x : Operand) : V P K (.ops false all (⟨d, .box e x, ty, ps, af, g⟩ :: r) :: S) s = (s.gOk all g ∧ dstN s d ∧ (s.G all g = true → ((s.ev x).1 = true ∧ cellsP (s.ev x).2) ∧ V P K (.ops false all r :: S) (((s.newk (.box e (boxCells (s.ev x).2))) : St).putO d true (.ptr s.nk 0 0 0))) ∧ (s.G all g = false → V P K (.ops false all r :: S) (s.putO d false .bad))) := by rw [V_ops]; rfl
theorem V_alloc (e : TypeId) : V P K (.ops false all (⟨d, .alloc e, ty, ps, af, g⟩ :: r) :: S) s = (s.gOk all g ∧ dstN s d ∧ (s.G all g = true → ((zeroT P e).isSome = true) ∧ V P K (.ops false all r :: S) (((s.newk (.box e ((zcells P e).map .v))) : St).putO d true (.ptr s.nk 0 0 0))) ∧ (s.G all g = false → V P K (.ops false all r :: S) (s.putO d false .bad))) := by rw [V_ops]; rfl
theorem V_store (t : TypeId) (p x : Operand) (hb : nestS s.h (s.ev p).2 (s.ev x).2 = false) : V P K (.ops false all (⟨d, .store t p x, ty, ps, af, g⟩ :: r) :: S) s = (s.gOk all g ∧ dstN s d ∧ (s.G all g = true → (((s.ev p).1 = true ∧ (s.ev x).1 = true) ∧ storeP P s.h t (s.ev p).2 (s.ev x).2) ∧ V P K (.ops false all r :: S) ((((⟨s.t, storeH s.h (s.ev p).2 (s.ev x).2, s.nk, s.N⟩ : St)) : St).putO d true (.bad))) ∧ (s.G all g = false → V P K (.ops false all r :: S) (s.putO d false .bad))) := by rw [V_ops]; simp only [pureOp, memOp, newOp, hb, Bool.false_eq_true, if_false]
theorem V_append (x y : Operand) (t t2 : TypeId) (hb : nestA s.h (s.ev y).2 = false) : V P K (.ops false all (⟨d, .call ⟨.builtin .append, ⟨[x, y]⟩, ⟨[t, t2]⟩⟩, ty, ps, af, g⟩ :: r) :: S) s = (s.gOk all g ∧ dstN s d ∧ (s.G all g = true → (((s.ev x).1 = true ∧ (s.ev y).1 = true) ∧ appP P t t2 s.h s.nk (s.ev x).2 (s.ev y).2) ∧ V P K (.ops false all r :: S) ((((appS P t s (s.ev x).2 (s.ev y).2).1) : St).putO d true ((appS P t s (s.ev x).2 (s.ev y).2).2))) ∧ (s.G all g = false → V P K (.ops false all r :: S) (s.putO d false .bad))) := by rw [V_ops]; simp only [pureOp, memOp, newOp, hb, Bool.false_eq_true, if_false]
theorem V_bytes (src dst : TypeId) (x : Operand) (hb : (strT P src && bytesT P dst) = true) : V P K (.ops false all (⟨d, .convert src dst x, ty, ps, af, g⟩ :: r) :: S) s = (s.gOk all g ∧ dstN s d ∧ (s.G all g = true → ((s.ev x).1 = true ∧ (s.ev x).2.strP) ∧ V P K (.ops false all r :: S) (((s.newk (.row ((slT P dst).getD (0, 0)).1 1 ((s.ev x).2.strV.map byteRow))) : St).putO d true (.sl s.nk 1 0 (s.ev x).2.strV.length))) ∧ (s.G all g = false → V P K (.ops false all r :: S) (s.putO d false .bad))) := by
  rw [V_ops]
  have : strT P src = true ∧ bytesT P dst = true := by simpa using hb
  simp only [pureOp, memOp, newOp, if_pos this, Bool.false_eq_true, if_false]
theorem V_makeSlice (t : TypeId) (l c : Operand) : V P K (.ops false all (⟨d, .makeSlice t l c, ty, ps, af, g⟩ :: r) :: S) s = (s.gOk all g ∧ dstN s d ∧ (s.G all g = true → (((s.ev l).1 = true ∧ (s.ev l).2.intP ∧ (s.ev c).1 = true ∧ (s.ev c).2.intP) ∧ ((slT P t).isSome = true ∧ (((slT P t).bind fun p => zeroT P p.1).isSome = true) ∧ (zcells P (((slT P t).getD (0, 0)).1)).length = ((slT P t).getD (0, 0)).2 ∧ 0 < ((slT P t).getD (0, 0)).2) ∧
      0 ≤ (s.ev l).2.intV ∧ (s.ev l).2.intV ≤ (s.ev c).2.intV ∧ (s.ev c).2.intV ≤ 1099511627776 ∧ ((P.info? (((slT P t).getD (0, 0)).1)).map (·.bytes)).getD 1000 ≤ 256) ∧ V P K (.ops false all r :: S) (((s.newk (.row ((slT P t).getD (0, 0)).1 ((slT P t).getD (0, 0)).2 (List.replicate (s.ev l).2.intV.toNat ((zcells P (((slT P t).getD (0, 0)).1)).map .v)))) : St).putO d true (.sl s.nk ((slT P t).getD (0, 0)).2 0 (s.ev l).2.intV.toNat))) ∧ (s.G all g = false → V P K (.ops false all r :: S) (s.putO d false .bad))) := by rw [V_ops]; rfl
theorem V_buildSlice (t : TypeId) (n : Nat) (ps' : List (Nat × Operand)) : V P K (.ops false all (⟨d, .buildSlice t n ⟨ps'⟩, ty, ps, af, g⟩ :: r) :: S) s = (s.gOk all g ∧ dstN s d ∧ (s.G all g = true → ((slT P t).isSome = true ∧ 0 < ((slT P t).getD (0, 0)).2 ∧ ((slT P t).bind fun p => zeroT P p.1).isSome = true ∧ (zcells P (((slT P t).getD (0, 0)).1)).length = ((slT P t).getD (0, 0)).2 ∧ ps'.length = n ∧ n * ((slT P t).getD (0, 0)).2 ≤ 16777216 ∧ partsOk s ((slT P t).getD (0, 0)).2 0 ps') ∧ V P K (.ops false all r :: S) (((s.newk (litChunk ((slT P t).getD (0, 0)).1 ((slT P t).getD (0, 0)).2 (partCells s ps'))) : St).putO d true ((.sl s.nk ((slT P t).getD (0, 0)).2 0 n)))) ∧ (s.G all g = false → V P K (.ops false all r :: S) (s.putO d false .bad))) := by rw [V_ops]; rfl
end

/-! ### Rules for the states -/
theorem putO_some (s : St) (d : Tmp) (c : Bool) (x : AV) : s.putO (some d) c x = s.put d c x := rfl
theorem putO_none (s : St) (c : Bool) (x : AV) : s.putO none c x = s := rfl
theorem put_mk (t h nk N d c x) : St.put ⟨t, h, nk, N⟩ d c x = ⟨(d, c, x) :: t, h, nk, N⟩ := rfl
theorem newk_mk (t h nk N ch) : St.newk ⟨t, h, nk, N⟩ ch = ⟨t, (nk, ch) :: h, nk + 1, N⟩ := rfl
theorem ev_tmp (t h nk N n) : St.ev ⟨t, h, nk, N⟩ (.tmp n) = look (true, .bad) t n := rfl
theorem ev_const (s : St) (c) : St.ev s (.const c) = (true, .v c) := rfl
theorem ev_func (s : St) (f) : St.ev s (.func f) = (true, .fn f []) := rfl
theorem look_cons {α : Type} (d : α) (k v r i) : look d ((k, v) :: r) i = if k = i then v else look d r i := rfl
theorem look_nil {α : Type} (d : α) (i) : look d [] i = d := rfl
theorem lookq_cons {α : Type} (k) (v : α) (r i) : look? ((k, v) :: r) i = if k = i then some v else look? r i := rfl
theorem lookq_nil {α : Type} (i) : look? ([] : List (Nat × α)) i = none := rfl
theorem gOk_none (s : St) (all) : s.gOk all none = True := rfl
theorem gOk_some (s : St) (all i b) : s.gOk all (some (i, b)) = gdp s (dstOf all i) := rfl
theorem G_none (s : St) (all) : s.G all none = true := rfl
theorem G_some (s : St) (all i b) : s.G all (some (i, b)) = gdt s b (dstOf all i) := rfl
theorem gdt_mk (t h nk N b d) : gdt ⟨t, h, nk, N⟩ b (some d) = ((look (true, .bad) t d).1 && ((look (true, .bad) t d).2.boolV == b)) := rfl
theorem gdp_mk (t h nk N d) : gdp ⟨t, h, nk, N⟩ (some d) = (d < N ∧ ((look (true, .bad) t d).1 = true → (look (true, .bad) t d).2.boolP)) := rfl
theorem dstOf_zero (o : Oper) (r) : dstOf (o :: r) 0 = o.dst := rfl
theorem dstOf_succ (o : Oper) (r) (i : Nat) : dstOf (o :: r) (i + 1) = dstOf r i := rfl
theorem dstN_some (t h nk N d) : dstN ⟨t, h, nk, N⟩ (some d) = (d < N) := rfl
theorem dstN_none (s : St) : dstN s none = True := rfl
theorem popTo_endb (id i S) : popTo id (.endb i :: S) = if i = id then some S else popTo id S := rfl
theorem popTo_code (id c S) : popTo id (.code c :: S) = popTo id S := rfl
theorem popTo_back (id S) {ι : Type} (hd : ι → St) (μ m) : popTo id (.back hd μ m :: S) = popTo id S := rfl

theorem pickAV_c (c x y : AV) : pickAV c x y = .v (.bool (bif c.boolV then x.boolV else y.boolV)) := rfl
section
variable (P : Program) (ty : TypeId) (o : Oper) (r : List Oper) (c x y i : Operand) (t t3 : TypeId) (f : Nat)
theorem hasNews_nil : hasNews P [] = false := rfl
theorem hasNews_cons : hasNews P (o :: r) = (hasNew P o.type o.op || hasNews P r) := rfl
theorem hasNew_move : hasNew P ty (.move x) = false := rfl
theorem hasNew_assign : hasNew P ty (.assign x) = false := rfl
theorem hasNew_pick : hasNew P ty (.pick c x y) = false := rfl
theorem hasNew_fieldAddr : hasNew P ty (.fieldAddr t x f) = false := rfl
theorem hasNew_indexAddr : hasNew P ty (.indexAddr t x i) = false := rfl
theorem hasNew_index : hasNew P ty (.index t x i) = false := rfl
theorem hasNew_load : hasNew P ty (.load t x) = false := rfl
theorem hasNew_extract : hasNew P ty (.extract x f) = false := rfl
theorem hasNew_field : hasNew P ty (.field t x f) = false := rfl
theorem hasNew_nilCheck : hasNew P ty (.nilCheck x) = false := rfl
theorem hasNew_bin (op : BinOp) : hasNew P ty (.binOp op t x y t3) = false := rfl
theorem hasNew_un (op : UnOp) : hasNew P ty (.unOp op t x) = false := rfl
theorem hasNew_conv : hasNew P ty (.convert t t3 x) = false := rfl
theorem hasNew_slice (lo hi mx) : hasNew P ty (.slice t x lo hi mx) = false := rfl
theorem hasNew_len (xs ts) : hasNew P ty (.call ⟨.builtin .len, xs, ts⟩) = false := rfl
theorem hasNew_min (xs ts) : hasNew P ty (.call ⟨.builtin .min, xs, ts⟩) = false := rfl
theorem hasNew_max (xs ts) : hasNew P ty (.call ⟨.builtin .max, xs, ts⟩) = false := rfl
theorem hasNew_call (fo xs ts) : hasNew P ty (.call ⟨.value fo, xs, ts⟩) = refT P ty := rfl
theorem hasNew_func (g a b) : hasNew P ty (.makeFunc g a b) = false := rfl
theorem hasNew_buildS (pp) : hasNew P ty (.build t pp) = false := rfl
theorem buildL_nil (s : St) (pl cells) : buildL s pl cells [] = cells := rfl
theorem buildL_cons (s : St) (pl cells) (j : Nat) (o : Operand) (r) : buildL s pl cells ((j, o) :: r) = buildL s pl (setL cells ((pl.getD j (0, 0)).1) (boxCells (s.ev o).2)) r := rfl
theorem buildP_nil (s : St) (pl n) : buildP s pl n [] = True := rfl
theorem buildP_cons (s : St) (pl n) (j : Nat) (o : Operand) (r) : buildP s pl n ((j, o) :: r) = ((s.ev o).1 = true ∧ cellsP (s.ev o).2 ∧ j < pl.length ∧ (boxCells (s.ev o).2).length = (pl.getD j (0, 0)).2 ∧ (pl.getD j (0, 0)).1 + (boxCells (s.ev o).2).length ≤ n ∧ buildP s pl n r) := rfl
theorem hasNew_store : hasNew P ty (.store t x y) = true := rfl
theorem hasNew_alloc : hasNew P ty (.alloc t) = true := rfl
theorem hasNew_box : hasNew P ty (.box t x) = true := rfl
theorem hasNew_build (n ps) : hasNew P ty (.buildSlice t n ps) = true := rfl
theorem hasNew_make : hasNew P ty (.makeSlice t x y) = true := rfl
theorem hasNew_append (xs ts) : hasNew P ty (.call ⟨.builtin .append, xs, ts⟩) = true := rfl
theorem hasNew_copy (xs ts) : hasNew P ty (.call ⟨.builtin .copy, xs, ts⟩) = true := rfl
end
theorem geAV_str (x y : List UInt8) : geAV (.v (str x)) (.v (str y)) = !(bytesLt x y) := by simp [geAV, str]
section
variable (x y : AV) (t : TypeId) (h : Heap) (k E i j lo n : Nat) (k' : IntKind) (a : Int) (row : List Cell)
theorem binAV_add : binAV .add x y = addAV x y := rfl
theorem binAV_sub : binAV .sub x y = .v (.int (intK x) ((intK x).wrap (x.intV - y.intV))) := rfl
theorem binAV_mul : binAV .mul x y = .v (.int (intK x) ((intK x).wrap (x.intV * y.intV))) := rfl
theorem binAV_quo : binAV .quo x y = .v (.int (intK x) (quoV (intK x) x.intV y.intV)) := rfl
theorem binAV_rem : binAV .rem x y = .v (.int (intK x) (remV x.intV y.intV)) := rfl
theorem binAV_shl : binAV .shl x y = .v (.int (intK x) (shlV (intK x) x.intV y.intV)) := rfl
theorem binAV_shr : binAV .shr x y = .v (.int (intK x) (shrV (intK x) x.intV y.intV)) := rfl
theorem binAV_eql : binAV .eql x y = .v (.bool (eqAV x y)) := rfl
theorem binAV_neq : binAV .neq x y = .v (.bool (!(eqAV x y))) := rfl
theorem binAV_lss : binAV .lss x y = .v (.bool (ltAV x y)) := rfl
theorem binAV_leq : binAV .leq x y = .v (.bool (leAV x y)) := rfl
theorem binAV_gtr : binAV .gtr x y = .v (.bool (gtAV x y)) := rfl
theorem binAV_geq : binAV .geq x y = .v (.bool (geAV x y)) := rfl
theorem binAV_and : binAV .and x y = .v (.int (intK x) (bitsV .and (intK x) x.intV y.intV)) := rfl
theorem binAV_or : binAV .or x y = .v (.int (intK x) (bitsV .or (intK x) x.intV y.intV)) := rfl
theorem binAV_xor : binAV .xor x y = .v (.int (intK x) (bitsV .xor (intK x) x.intV y.intV)) := rfl
theorem binAV_andNot : binAV .andNot x y = .v (.int (intK x) (bitsV .andNot (intK x) x.intV y.intV)) := rfl
theorem binP_add : binP P t .add x y = addP x y := rfl
theorem binP_sub : binP P t .sub x y = int2P x y := rfl
theorem binP_mul : binP P t .mul x y = int2P x y := rfl
theorem binP_quo : binP P t .quo x y = (int2P x y ∧ y.intV ≠ 0) := rfl
theorem binP_rem : binP P t .rem x y = (int2P x y ∧ y.intV ≠ 0) := rfl
theorem binP_shl : binP P t .shl x y = (x.intP ∧ y.intP ∧ 0 ≤ y.intV) := rfl
theorem binP_shr : binP P t .shr x y = (x.intP ∧ y.intP ∧ 0 ≤ y.intV) := rfl
theorem binP_eql : binP P t .eql x y = eqP P t x y := rfl
theorem binP_neq : binP P t .neq x y = eqP P t x y := rfl
theorem binP_lss : binP P t .lss x y = cmpP x y := rfl
theorem binP_leq : binP P t .leq x y = cmpP x y := rfl
theorem binP_gtr : binP P t .gtr x y = cmpP x y := rfl
theorem binP_geq : binP P t .geq x y = cmpP x y := rfl
theorem binP_and : binP P t .and x y = int2P x y := rfl
theorem binP_or : binP P t .or x y = int2P x y := rfl
theorem binP_xor : binP P t .xor x y = int2P x y := rfl
theorem binP_andNot : binP P t .andNot x y = int2P x y := rfl
theorem int2P_e : int2P x y = (x.intP ∧ y.intP ∧ intK x = intK y) := rfl
theorem unAV_neg : unAV .neg x = .v (.int (intK x) ((intK x).wrap (0 - x.intV))) := rfl
theorem unAV_not : unAV .not x = .v (.bool (!x.boolV)) := rfl
theorem unP_neg : unP .neg x = x.intP := rfl
theorem unP_not : unP .not x = x.boolP := rfl
theorem pickP_e (c a b : Bool × AV) : pickP c a b = (c.1 = true ∧ c.2.boolP ∧ (c.2.boolV = true → a.1 = true ∧ a.2.boolP) ∧ (c.2.boolV = false → b.1 = true ∧ b.2.boolP)) := rfl
def loadC (P : Program) (t : TypeId) (k E i j : Nat) : Option Chunk → AV
  | some (.box _ cells) => pick1 (isAggT P t) ((szT P t).getD 0) cells (i * E + j)
  | some (.row _ _ rows) => pick1 (isAggT P t) ((szT P t).getD 0) (rowAVs k i 0 (rows.getD i [])) j
  | _ => .bad
def loadCP (P : Program) (t : TypeId) (E i j : Nat) : Option Chunk → Prop
  | some (.box _ cells) => szOk (isAggT P t) ((szT P t).getD 0) cells.length (i * E + j)
  | some (.row _ E' rows) => E' = E ∧ i < rows.length ∧ szOk (isAggT P t) ((szT P t).getD 0) (rows.getD i []).length j
  | _ => False
theorem loadAV_ptr : loadAV P h t (.ptr k E i j) = loadC P t k E i j (look? h k) := by
  simp only [loadAV]; cases look? h k with
  | none => rfl
  | some c => cases c <;> rfl
theorem loadP_ptr : loadP P h t (.ptr k E i j) = loadCP P t E i j (look? h k) := by
  simp only [loadP]; cases look? h k with
  | none => rfl
  | some c => cases c <;> rfl
theorem loadC_box (e cells) : loadC P t k E i j (some (.box e cells)) = pick1 (isAggT P t) ((szT P t).getD 0) cells (i * E + j) := rfl
theorem loadC_row (e E' rows) : loadC P t k E i j (some (.row e E' rows)) = pick1 (isAggT P t) ((szT P t).getD 0) (rowAVs k i 0 (rows.getD i [])) j := rfl
theorem loadCP_box (e cells) : loadCP P t E i j (some (.box e cells)) = szOk (isAggT P t) ((szT P t).getD 0) cells.length (i * E + j) := rfl
theorem loadCP_row (e E' rows) : loadCP P t E i j (some (.row e E' rows)) = (E' = E ∧ i < rows.length ∧ szOk (isAggT P t) ((szT P t).getD 0) (rows.getD i []).length j) := rfl
theorem loadAV_rp : loadAV P h t (.rp row j) = pick1 (isAggT P t) ((szT P t).getD 0) (row.map roAV) j := rfl
theorem loadAV_rq (xs) : loadAV P h t (.rq xs j) = pick1 (isAggT P t) ((szT P t).getD 0) xs j := rfl
theorem loadP_rq (xs) : loadP P h t (.rq xs j) = szOk (isAggT P t) ((szT P t).getD 0) xs.length j := rfl
theorem loadP_rp : loadP P h t (.rp row j) = szOk (isAggT P t) ((szT P t).getD 0) row.length j := rfl
theorem szOk_t (n l) : szOk true n l j = (j + n ≤ l) := by simp [szOk]
theorem szOk_f (n l) : szOk false n l j = (j < l) := by simp [szOk]
theorem pick1_t (n) (xs : List AV) : pick1 true n xs j = .agg ((xs.drop j).take n) := rfl
theorem pick1_f (n) (xs : List AV) : pick1 false n xs j = xs.getD j .bad := rfl
def storeC (k E i j : Nat) (h : Heap) (ys : List AV) : Option Chunk → Heap
  | some (.box e cells) => setH h k (.box e (setL cells (i * E + j) ys))
  | some (.row e E' rows) => setH h k (.row e E' (rows.set i (setL (rows.getD i []) j (ys.map toCell))))
  | _ => h
def storeCP (E i j : Nat) (x : AV) : Option Chunk → Prop
  | some (.box _ cells) => i * E + j + (boxCells x).length ≤ cells.length
  | some (.row _ E' rows) => flatOk x ∧ E' = E ∧ i < rows.length ∧ j + (boxCells x).length ≤ (rows.getD i []).length
  | _ => False
theorem storeH_ptr : storeH h (.ptr k E i j) x = storeC k E i j h (boxCells x) (look? h k) := by
  simp only [storeH]; cases look? h k with
  | none => rfl
  | some c => cases c <;> rfl
theorem storeP_ptr : storeP P h t (.ptr k E i j) x = (cellsP x ∧ szT P t = some (boxCells x).length ∧ storeCP E i j x (look? h k)) := by
  simp only [storeP]; cases look? h k with
  | none => rfl
  | some c => cases c <;> rfl
theorem storeC_box (e cells ys) : storeC k E i j h ys (some (.box e cells)) = setH h k (.box e (setL cells (i * E + j) ys)) := rfl
theorem storeC_row (e E' rows ys) : storeC k E i j h ys (some (.row e E' rows)) = setH h k (.row e E' (rows.set i (setL (rows.getD i []) j (ys.map toCell)))) := rfl
theorem storeCP_box (e cells) : storeCP E i j x (some (.box e cells)) = (i * E + j + (boxCells x).length ≤ cells.length) := rfl
theorem storeCP_row (e E' rows) : storeCP E i j x (some (.row e E' rows)) = (flatOk x ∧ E' = E ∧ i < rows.length ∧ j + (boxCells x).length ≤ (rows.getD i []).length) := rfl
theorem flatOk_e : flatOk x = ((boxCells x).all isV = true) := rfl
theorem setH_cons (k' : Nat) (c' c : Chunk) (r : Heap) : setH ((k', c') :: r) k c = if k' = k then (k', c) :: r else (k', c') :: setH r k c := rfl
theorem convAV_e (s d : TypeId) : convAV P h s d x = (match intT P d with
  | some k => .v (.int k (k.wrap x.intV))
  | none => if strT P d = true then (if bytesT P s = true then .v (str (((rowsAV h x).getD []).map rowByte)) else x) else .bad) := rfl
theorem convP_e (s d : TypeId) : convP P h s d x = (match intT P d with
  | some k => x.intP ∧ (P.underlying s).isSome = true
  | none => strT P d = true ∧ if bytesT P s = true then (eszAV 1 x ∧ isBytes ((rowsAV h x).getD [[]]) ∧ lenAV x = ((rowsAV h x).getD []).length) else (x.strP ∧ (P.underlying s).isSome = true)) := rfl
theorem lenP_e : lenP P t x = if strT P t = true then x.strP else ((slT P t).isSome = true ∧ isSlAV x) := rfl
theorem idxAV_str (l : List UInt8) : idxAV (.v (str l)) (.v (.int k' a)) = .v (.int .u8 (l.getD a.toNat 0).toNat) := by simp [idxAV, strV_str, intV_v]
theorem idxP_str (l : List UInt8) : idxP P t (.v (str l)) (.v (.int k' a)) = (strT P t = true ∧ 0 ≤ a ∧ a < l.length) := by simp [idxP, strV_str, intV_v, strP_str, intP_v]
theorem cutP_e (l q : Int) : cutP P t x l q = ((if strT P t = true then x.strP else (isSlAV x ∧ eszAV (((slT P t).map (·.2)).getD 0) x ∧ (slT P t).isSome = true)) ∧ 0 ≤ l ∧ l ≤ q ∧ q ≤ lenAV x) := rfl
theorem optV_none (s : St) (d : Nat) : optV s d none = d := rfl
theorem optV_some (s : St) (d : Nat) (o : Operand) : optV s d (some o) = (s.ev o).2.intV := rfl
theorem optP_none (s : St) : optP s none = True := rfl
theorem optP_some (s : St) (o : Operand) : optP s (some o) = ((s.ev o).1 = true ∧ (s.ev o).2.intP) := rfl
theorem cellsP_int : cellsP (.v (.int k' a)) = True := rfl
theorem cellsP_bool (b : Bool) : cellsP (.v (.bool b)) = True := rfl
theorem cellsP_sl : cellsP (.sl k E lo n) = True := rfl
theorem cellsP_ptr : cellsP (.ptr k E i j) = True := rfl
theorem cellsP_rd (rows) : cellsP (.rd E rows) = True := rfl
theorem cellsP_rp : cellsP (.rp row j) = True := rfl
theorem cellsP_rq (xs) : cellsP (.rq xs j) = True := rfl
theorem cellsP_nil : cellsP (.v (.slice none 0 0)) = True := rfl
theorem cellsP_fn (f cap) : cellsP (.fn f cap) = True := rfl
theorem oneP_int : oneP (.v (.int k' a)) = True := rfl
theorem oneP_bool (b : Bool) : oneP (.v (.bool b)) = True := rfl
theorem oneP_sl : oneP (.sl k E lo n) = True := rfl
theorem oneP_ptr : oneP (.ptr k E i j) = True := rfl
theorem oneP_rd (rows) : oneP (.rd E rows) = True := rfl
theorem oneP_rp : oneP (.rp row j) = True := rfl
theorem oneP_rq (xs) : oneP (.rq xs j) = True := rfl
theorem oneP_nil : oneP (.v (.slice none 0 0)) = True := rfl
theorem oneP_fn (f cap) : oneP (.fn f cap) = True := rfl
theorem boxCells_v (v : Value) : boxCells (.v v) = [.v v] := rfl
theorem boxCells_sl : boxCells (.sl k E lo n) = [.sl k E lo n] := rfl
theorem boxCells_ptr : boxCells (.ptr k E i j) = [.ptr k E i j] := rfl
theorem boxCells_rd (rows) : boxCells (.rd E rows) = [.rd E rows] := rfl
theorem boxCells_rp : boxCells (.rp row j) = [.rp row j] := rfl
theorem boxCells_rq (xs) : boxCells (.rq xs j) = [.rq xs j] := rfl
theorem boxCells_fn (f cap) : boxCells (.fn f cap) = [.fn f cap] := rfl
theorem rowsAV_rd (rows) : rowsAV h (.rd E rows) = some rows := rfl
theorem rowsAV_nil : rowsAV h (.v (.slice none 0 0)) = some [] := rfl
def rowsC (E lo n : Nat) : Option Chunk → Option (List (List Cell))
  | some (.row _ E2 rows) => if E2 = E then some ((rows.drop lo).take n) else none
  | _ => none
theorem rowsAV_sl : rowsAV h (.sl k E lo n) = rowsC E lo n (look? h k) := by
  simp only [rowsAV]; cases look? h k with
  | none => rfl
  | some c => cases c <;> rfl
theorem rowsC_row (e E2 rows) : rowsC E lo n (some (.row e E2 rows)) = if E2 = E then some ((rows.drop lo).take n) else none := rfl
theorem mmAV_e (mx : Bool) : mmAV mx x y = .v (.int (intK x) (if mx then (if x.intV < y.intV then y.intV else x.intV) else (if y.intV < x.intV then y.intV else x.intV))) := rfl
theorem extAV_tup (xs) : extAV i (.tup xs) = xs.getD i .bad := rfl
theorem extP_tup (xs) : extP i (.tup xs) = (i < xs.length) := rfl
def fieldC (xs : List AV) : Option (Nat × Bool × Nat) → AV
  | some (o, agg, n) => pick1 agg n xs o
  | none => .bad
def fieldCP (xs : List AV) : Option (Nat × Bool × Nat) → Prop
  | some (o, agg, n) => szOk agg n xs.length o
  | none => False
theorem fieldAV_agg (f : Nat) (xs) : fieldAV P t f (.agg xs) = fieldC xs (fldV P t f) := by
  simp only [fieldAV]; cases fldV P t f <;> rfl
theorem fieldP_agg (f : Nat) (xs) : fieldP P t f (.agg xs) = fieldCP xs (fldV P t f) := by
  simp only [fieldP]; cases fldV P t f <;> rfl
theorem fieldC_some (xs o agg n) : fieldC xs (some (o, agg, n)) = pick1 agg n xs o := rfl
theorem fieldCP_some (xs o agg n) : fieldCP xs (some (o, agg, n)) = szOk agg n xs.length o := rfl
theorem evsP_nil (s : St) : evsP s [] = True := by simp [evsP]
theorem evsP_cons (s : St) (o : Operand) (r) : evsP s (o :: r) = ((s.ev o).1 = true ∧ evsP s r) := by simp [evsP]
theorem evs_nil (s : St) : evs s [] = [] := rfl
theorem evs_cons (s : St) (o : Operand) (r) : evs s (o :: r) = (s.ev o).2 :: evs s r := rfl
theorem partCells_nil (s : St) : partCells s [] = [] := rfl
theorem partCells_cons (s : St) (j : Nat) (o : Operand) (r) : partCells s ((j, o) :: r) = boxCells (s.ev o).2 :: partCells s r := rfl
theorem partsOk_nil (s : St) : partsOk s E i [] = True := rfl
theorem partsOk_cons (s : St) (o : Operand) (r) : partsOk s E i ((j, o) :: r) = (j = i ∧ (s.ev o).1 = true ∧ cellsP (s.ev o).2 ∧ (boxCells (s.ev o).2).length = E ∧ partsOk s E (i + 1) r) := rfl
end

def nestSC (x : AV) : Option Chunk → Bool
  | some (.row ..) => !((boxCells x).all isV)
  | _ => false
def nestAC : Option Chunk → Bool
  | some (.box ..) => true
  | _ => false
section
variable (h : Heap) (x : AV) (k E i j l q n : Nat) (e : TypeId) (rows : List (List Cell)) (xs : List AV)
theorem nestS_ptr : nestS h (.ptr k E i j) x = nestSC x (look? h k) := by
  simp only [nestS]; cases look? h k with
  | none => rfl
  | some c => cases c <;> rfl
theorem nestS_subp : nestS h (.subp k i j E l q) x = false := rfl
theorem nestSC_row : nestSC x (some (.row e E rows)) = !((boxCells x).all isV) := rfl
theorem nestSC_box : nestSC x (some (.box e xs)) = false := rfl
theorem nestA_sl : nestA h (.sl k E l n) = nestAC (look? h k) := by
  simp only [nestA]; cases look? h k with
  | none => rfl
  | some c => cases c <;> rfl
theorem nestA_v (v : Value) : nestA h (.v v) = false := rfl
theorem nestA_rd : nestA h (.rd E rows) = false := rfl
theorem nestA_sub : nestA h (.sub k i j E l n) = false := rfl
theorem nestAC_row : nestAC (some (.row e E rows)) = false := rfl
theorem nestAC_box : nestAC (some (.box e xs)) = true := rfl
theorem isV_sl : isV (.sl k E l n) = false := rfl
theorem isV_sub : isV (.sub k i j E l n) = false := rfl
theorem isV_rd : isV (.rd E rows) = false := rfl
theorem isV_ptr : isV (.ptr k E i j) = false := rfl
end

/-- The walk's rules, for the root (to be used with an arrow that points down). -/
def ctl {P : Program} {K : St → Prop} := And.intro (And.intro (And.intro (And.intro (And.intro (@VO_some P K) (@VQ_f P K)) (And.intro (@V_build P K) (@V_nil P K))) (And.intro (And.intro (@V_endb P K) (@V_seq P K)) (And.intro (@V_skip P K) (And.intro (@V_ret P K) (@V_cond P K))))) (And.intro (And.intro (And.intro (@V_block P K) (@V_exit P K)) (And.intro (@V_region P K) (@V_regionQ P K))) (And.intro (And.intro (@V_opsnil P K) (@V_move P K)) (And.intro (@V_assign P K) (And.intro (@V_pick P K) (@V_bin P K)))))) (And.intro (And.intro (And.intro (And.intro (@V_un P K) (@V_fieldAddr P K)) (And.intro (@V_indexAddr P K) (@V_index P K))) (And.intro (And.intro (@V_load P K) (@V_slice P K)) (And.intro (@V_extract P K) (And.intro (@V_field P K) (@V_nilCheck P K))))) (And.intro (And.intro (And.intro (@V_len P K) (@V_min P K)) (And.intro (@V_max P K) (And.intro (@V_makeFunc P K) (@V_box P K)))) (And.intro (And.intro (@V_alloc P K) (@V_store P K)) (And.intro (@V_append P K) (And.intro (@V_makeSlice P K) (@V_buildSlice P K))))))

theorem popTo_back' {id : Nat} {S : List Fr} {ι : Type} {hd : ι → St} {μ : ι → Nat} {m : Nat} : popTo id (.back hd μ m :: S) = popTo id S := rfl

/-- The rules for the states. -/
def evl := And.intro (And.intro (And.intro (And.intro (And.intro @hasNew_buildS (And.intro @buildL_nil @buildL_cons)) (And.intro (And.intro @buildP_nil @buildP_cons) (And.intro @hasNews_nil @hasNews_cons))) (And.intro (And.intro @hasNew_move (And.intro @hasNew_assign @hasNew_pick)) (And.intro (And.intro @hasNew_fieldAddr @hasNew_indexAddr) (And.intro @hasNew_index @hasNew_load)))) (And.intro (And.intro (And.intro @hasNew_extract (And.intro @hasNew_field @hasNew_nilCheck)) (And.intro (And.intro @hasNew_bin @hasNew_un) (And.intro @hasNew_conv @hasNew_slice))) (And.intro (And.intro (And.intro @hasNew_len @hasNew_min) (And.intro @hasNew_max @hasNew_call)) (And.intro (And.intro @hasNew_func @hasNew_store) (And.intro @hasNew_alloc @hasNew_box))))) (And.intro (And.intro (And.intro (And.intro @hasNew_build (And.intro @hasNew_make @hasNew_append)) (And.intro (And.intro @hasNew_copy @popTo_back') (And.intro @putO_some @putO_none))) (And.intro (And.intro (And.intro @put_mk @newk_mk) (And.intro @ev_tmp @ev_const)) (And.intro (And.intro @ev_func @gOk_none) (And.intro @gOk_some @G_none)))) (And.intro (And.intro (And.intro @G_some (And.intro @gdt_mk @gdp_mk)) (And.intro (And.intro @dstOf_zero @dstOf_succ) (And.intro @dstN_some @dstN_none))) (And.intro (And.intro (And.intro @popTo_endb @popTo_code) (And.intro (fun α : Type => @look_cons α) (fun α : Type => @look_nil α))) (And.intro (And.intro (fun α : Type => @lookq_cons α) (fun α : Type => @lookq_nil α)) (And.intro (fun α : Type => @setL_nil α) (fun α : Type => @setL_cons α))))))

/-- The rules for the values. -/
def val := And.intro (And.intro (And.intro (And.intro (And.intro (And.intro (And.intro @nestS_ptr @nestS_subp) (And.intro @nestSC_row (And.intro @nestSC_box @nestA_sl))) (And.intro (And.intro @nestA_v @nestA_rd) (And.intro @nestA_sub (And.intro @nestAC_row @nestAC_box)))) (And.intro (And.intro (And.intro @isV_sl @isV_sub) (And.intro @isV_rd (And.intro @isV_ptr @eqLsP_nil))) (And.intro (And.intro @eqLsP_cons (And.intro @pickAV_c @eqAV_int)) (And.intro @eqAV_bool (And.intro @eqAV_str @eqAV_ptr))))) (And.intro (And.intro (And.intro (And.intro @eqAV_agg @eqLs_nil) (And.intro @eqLs_cons (And.intro @eq0_int @eq0_bool))) (And.intro (And.intro @eq0_str (And.intro @eq0P_int @eq0P_bool)) (And.intro @eq0P_str (And.intro @intK_v @intV_v)))) (And.intro (And.intro (And.intro @intP_v @boolV_v) (And.intro @boolP_v (And.intro @addAV_int @addAV_str))) (And.intro (And.intro @addP_int (And.intro @addP_str @cmpP_int)) (And.intro @cmpP_str (And.intro @ltAV_int @ltAV_str)))))) (And.intro (And.intro (And.intro (And.intro (And.intro @leAV_int @leAV_str) (And.intro @gtAV_int (And.intro @gtAV_str @geAV_int))) (And.intro (And.intro @strV_str (And.intro @strP_str @lenAV_str)) (And.intro @lenAV_sl (And.intro @lenAV_sub @lenAV_rd)))) (And.intro (And.intro (And.intro @lenAV_nil @isSl_sl) (And.intro @isSl_sub (And.intro @isSl_rd @isSl_nil))) (And.intro (And.intro @cutAV_str (And.intro @cutAV_rd @cutAV_sl)) (And.intro @cutAV_sub (And.intro @cutAV_nil @eszAV_rd))))) (And.intro (And.intro (And.intro (And.intro @eszAV_sl @eszAV_sub) (And.intro @eszAV_nil (And.intro @isPtr_ptr @isPtr_rp))) (And.intro (And.intro @isPtr_subp (And.intro @fldAV_ptr @fldAV_rp)) (And.intro @fldAV_subp (And.intro @ixaAV_rd @ixaAV_sl)))) (And.intro (And.intro (And.intro @ixaAV_sub @ixaAV_ptr) (And.intro @cellAV_v (And.intro @cellAV_s @roAV_v))) (And.intro (And.intro @roAV_s (And.intro @rowAVs_nil @rowAVs_cons)) (And.intro @isBytes_map (And.intro @cellsP_agg @cellsP_str))))))) (And.intro (And.intro (And.intro (And.intro (And.intro (And.intro @oneP_str @boxCells_agg) (And.intro @toCell_v (And.intro @isV_v @geAV_str))) (And.intro (And.intro @binAV_add (And.intro @binAV_sub @binAV_mul)) (And.intro @binAV_quo (And.intro @binAV_rem @binAV_shl)))) (And.intro (And.intro (And.intro @binAV_shr @binAV_eql) (And.intro @binAV_neq (And.intro @binAV_lss @binAV_leq))) (And.intro (And.intro @binAV_gtr (And.intro @binAV_geq @binAV_and)) (And.intro @binAV_or (And.intro @binAV_xor @binAV_andNot))))) (And.intro (And.intro (And.intro (And.intro @int2P_e @unAV_neg) (And.intro @unAV_not (And.intro @unP_neg @unP_not))) (And.intro (And.intro @pickP_e (And.intro @szOk_t @szOk_f)) (And.intro @pick1_t (And.intro @pick1_f @storeH_ptr)))) (And.intro (And.intro (And.intro @storeC_box @storeC_row) (And.intro @storeCP_box (And.intro @storeCP_row @flatOk_e))) (And.intro (And.intro @setH_cons (And.intro @idxAV_str @optV_none)) (And.intro @optV_some (And.intro @optP_none @optP_some)))))) (And.intro (And.intro (And.intro (And.intro (And.intro @cellsP_int @cellsP_bool) (And.intro @cellsP_sl (And.intro @cellsP_ptr @cellsP_rd))) (And.intro (And.intro @cellsP_rp (And.intro @cellsP_nil @cellsP_fn)) (And.intro @oneP_int (And.intro @oneP_bool @oneP_sl)))) (And.intro (And.intro (And.intro @oneP_ptr @oneP_rd) (And.intro @oneP_rp (And.intro @oneP_nil @oneP_fn))) (And.intro (And.intro @boxCells_v (And.intro @boxCells_sl @boxCells_ptr)) (And.intro @boxCells_rd (And.intro @boxCells_rp @boxCells_fn))))) (And.intro (And.intro (And.intro (And.intro @rowsAV_rd @rowsAV_nil) (And.intro @rowsAV_sl (And.intro @rowsC_row @mmAV_e))) (And.intro (And.intro @extAV_tup (And.intro @extP_tup @fieldC_some)) (And.intro @fieldCP_some (And.intro @evsP_nil @evsP_cons)))) (And.intro (And.intro (And.intro @evs_nil @evs_cons) (And.intro @partCells_nil (And.intro @partCells_cons @partsOk_nil))) (And.intro (And.intro @partsOk_cons (And.intro @isPtr_rq @fldAV_rq)) (And.intro @cellsP_rq (And.intro @oneP_rq @boxCells_rq)))))))

/-- The rules for the values that look at types. -/
def valP {P : Program} := And.intro (And.intro (And.intro (And.intro (And.intro (@eqP_int P) (@eqP_bool P)) (And.intro (@eqP_str P) (And.intro (@eqP_ptr P) (@eqP_agg P)))) (And.intro (And.intro (@ixaP_rd P) (And.intro (@ixaP_sl P) (@ixaP_sub P))) (And.intro (@ixaP_ptr P) (And.intro (@binP_add P) (@binP_sub P))))) (And.intro (And.intro (And.intro (@binP_mul P) (@binP_quo P)) (And.intro (@binP_rem P) (And.intro (@binP_shl P) (@binP_shr P)))) (And.intro (And.intro (@binP_eql P) (And.intro (@binP_neq P) (@binP_lss P))) (And.intro (@binP_leq P) (And.intro (@binP_gtr P) (@binP_geq P)))))) (And.intro (And.intro (And.intro (And.intro (@binP_and P) (@binP_or P)) (And.intro (@binP_xor P) (And.intro (@binP_andNot P) (@loadAV_ptr P)))) (And.intro (And.intro (@loadP_ptr P) (And.intro (@loadC_box P) (@loadC_row P))) (And.intro (@loadCP_box P) (And.intro (@loadCP_row P) (@loadAV_rp P))))) (And.intro (And.intro (And.intro (@loadP_rp P) (@storeP_ptr P)) (And.intro (@convAV_e P) (And.intro (@convP_e P) (@lenP_e P)))) (And.intro (And.intro (@idxP_str P) (And.intro (@cutP_e P) (@fieldAV_agg P))) (And.intro (@fieldP_agg P) (And.intro (@loadAV_rq P) (@loadP_rq P))))))

end Go.Eng

/- The engine, part N: forgetting, loops. -/
set_option linter.unusedVariables false
set_option linter.unusedSimpArgs false
namespace Go.Eng
open Go

variable {P : Program} {K : St → Prop}

/-- What holds of s holds of s' too. -/
def Weak (s s' : St) : Prop := ∀ B m a w, Sat B m s a w → ∃ m', Sat B m' s' a w
theorem Weak.refl (s : St) : Weak s s := fun _ m _ _ h => ⟨m, h⟩
theorem Weak.trans {s s' s'' : St} (h : Weak s s') (h' : Weak s' s'') : Weak s s'' := fun B m a w hs =>
  let ⟨m', hs'⟩ := h B m a w hs
  h' B m' a w hs'

theorem Good.weak {S : List Fr} {s s' : St} (hw : Weak s s') (h : Good P K S s') (hq : okS S) : Good P K S s :=
  good_of_den (okS_ne hq) fun B Q hQ m a w hs =>
    let ⟨m', hs'⟩ := hw B m a w hs
    h.use hQ (okS_ne hq) hs'

mutual
/-- All keys in it are below n. -/
def AV.lt (n : Nat) : AV → Prop
  | .rq xs _ => ltL n xs
  | .sl k _ _ _ => k < n
  | .ptr k _ _ _ => k < n
  | .sub k _ _ _ _ _ => k < n
  | .subp k _ _ _ _ _ => k < n
  | .agg xs => ltL n xs
  | .tup xs => ltL n xs
  | .fn _ xs => ltL n xs
  | .v _ => True
  | .rd _ _ => True
  | .rp _ _ => True
  | .bad => True
def ltL (n : Nat) : List AV → Prop
  | [] => True
  | x :: xs => AV.lt n x ∧ ltL n xs
end
def Chunk.lt (n : Nat) : Chunk → Prop
  | .box _ cells => ltL n cells
  | .row _ _ _ => True
  | .pin k' _ _ => k' < n
  | .fact xs _ => ltL n xs

def Lab.key : Lab → Nat
  | .root k => k
  | .sub k _ _ => k
def Mem.cut (m : Mem) (n : Nat) : Mem := { m with b := fun l => if l.key < n then m.b l else none }

mutual
theorem lt_ok {m : Mem} {n : Nat} : ∀ (x : AV) (u : Value), AV.lt n x → Ok m x u → Ok (m.cut n) x u
  | .sl k E lo c, u, hl, h => by
    simp only [AV.lt] at hl
    simp only [Ok, Mem.cut, Lab.key, hl, if_true] at h ⊢; exact h
  | .ptr k E i j, u, hl, h => by
    simp only [AV.lt] at hl
    simp only [Ok, Mem.cut, Lab.key, hl, if_true] at h ⊢; exact h
  | .sub k i j E lo c, u, hl, h => by
    simp only [AV.lt] at hl
    simp only [Ok, Mem.cut, Lab.key, hl, if_true] at h ⊢; exact h
  | .subp k i j E l q, u, hl, h => by
    simp only [AV.lt] at hl
    simp only [Ok, Mem.cut, Lab.key, hl, if_true] at h ⊢; exact h
  | .agg xs, u, hl, h => by simp only [AV.lt] at hl; simp only [Ok] at h ⊢; obtain ⟨us, h1, h2⟩ := h; exact ⟨us, h1, lts_ok xs us hl h2⟩
  | .tup xs, u, hl, h => by simp only [AV.lt] at hl; simp only [Ok] at h ⊢; obtain ⟨us, h1, h2⟩ := h; exact ⟨us, h1, lts_ok xs us hl h2⟩
  | .fn f xs, u, hl, h => by simp only [AV.lt] at hl; simp only [Ok] at h ⊢; obtain ⟨us, h1, h2⟩ := h; exact ⟨us, h1, lts_ok xs us hl h2⟩
  | .rq xs _, u, hl, h => by simp only [AV.lt] at hl; simp only [Ok] at h ⊢; obtain ⟨b, o, us, h1, h2, h3⟩ := h; exact ⟨b, o, us, h1, h2, lts_ok xs us hl h3⟩
  | .v _, u, _, h => by simp only [Ok] at h ⊢; exact h
  | .rd _ _, u, _, h => by simp only [Ok] at h ⊢; exact h
  | .rp _ _, u, _, h => by simp only [Ok] at h ⊢; exact h
  | .bad, u, _, _ => by simp only [Ok]
theorem lts_ok {m : Mem} {n : Nat} : ∀ (xs : List AV) (us : List Value), ltL n xs → Oks m xs us → Oks (m.cut n) xs us
  | [], us, _, h => by simp only [Oks] at h ⊢; exact h
  | x :: xs, us, hl, h => by
    simp only [ltL] at hl
    simp only [Oks] at h ⊢
    obtain ⟨u, vs, h1, h2, h3⟩ := h
    exact ⟨u, vs, h1, lt_ok x u hl.1 h2, lts_ok xs vs hl.2 h3⟩
end

theorem cut_chunk {m : Mem} {w : World} {k n : Nat} {c : Chunk} (hk : k < n) (hl : c.lt n) (h : ChunkOk m w k c) : ChunkOk (m.cut n) w k c := by
  have hr : (m.cut n).b (.root k) = m.b (.root k) := by simp [Mem.cut, Lab.key, hk]
  have hs : ∀ i j, (m.cut n).b (.sub k i j) = m.b (.sub k i j) := fun i j => by simp [Mem.cut, Lab.key, hk]
  cases c with
  | fact xs us => exact lts_ok _ _ hl h
  | pin k' ob zz =>
    have hk' : k' < n := hl
    exact fun b hb => ⟨by simp only [Mem.cut, Lab.key, hk', if_true]; exact (h b hb).1, (h b hb).2⟩
  | box e cells =>
    obtain ⟨b, vs, fr, h1, h2, h3, h4⟩ := h
    exact ⟨b, vs, fr, by rw [hr]; exact h1, h2, h3, lts_ok _ _ hl h4⟩
  | row e E rows =>
    rcases h with ⟨h1, h2⟩ | ⟨b, vs, fr, h1, h2, h3, h4, h5⟩
    · exact .inl ⟨by rw [hr]; exact h1, h2⟩
    · refine .inr ⟨b, vs, fr, by rw [hr]; exact h1, h2, h3, h4, fun i row hi => ⟨(h5 i row hi).1, fun j c hj => ?_⟩⟩
      obtain ⟨y, hy, hc⟩ := (h5 i row hi).2 j c hj
      refine ⟨y, hy, ?_⟩
      cases c with
      | v x => exact hc
      | s e' E' rows' =>
        obtain ⟨g1, g2⟩ := hc
        refine ⟨by rw [hs]; exact g1, ?_⟩
        rcases g2 with ⟨n1, n2⟩ | ⟨b', vs', fr', n1, n2⟩
        · exact .inl ⟨by rw [hs]; exact n1, n2⟩
        · exact .inr ⟨b', vs', fr', by rw [hs]; exact n1, n2⟩

def wkT (t : List (Nat × Bool × AV)) (n : Nat) : List (Nat × Bool × AV) → Prop
  | [] => True
  | (d, c, x) :: r => AV.lt n x ∧ look (true, .bad) t d = (c, x) ∧ wkT t n r
def wkH (h : Heap) (n : Nat) : Heap → Prop
  | [] => True
  | (k, c) :: r => k < n ∧ Chunk.lt n c ∧ look? h k = some c ∧ wkH h n r

theorem wkT_look {t : List (Nat × Bool × AV)} {n : Nat} : ∀ {t' : List (Nat × Bool × AV)}, wkT t n t' → ∀ d, look (true, .bad) t' d = (true, .bad) ∨ (look (true, .bad) t' d = look (true, .bad) t d ∧ AV.lt n (look (true, .bad) t' d).2)
  | [], _, d => .inl rfl
  | (d', c, x) :: r, h, d => by
    simp only [wkT] at h
    obtain ⟨h1, h2, h3⟩ := h
    simp only [look]
    split
    · rename_i he; subst he; exact .inr ⟨h2.symm, h1⟩
    · exact wkT_look h3 d
theorem wkH_look {hp : Heap} {n : Nat} : ∀ {h' : Heap}, wkH hp n h' → ∀ {k c}, look? h' k = some c → k < n ∧ Chunk.lt n c ∧ look? hp k = some c
  | [], _, k, c, hk => by simp [look?] at hk
  | (k', c') :: r, h, k, c, hk => by
    simp only [wkH] at h
    obtain ⟨h1, h2, h3, h4⟩ := h
    simp only [look?] at hk
    split at hk
    · rename_i he; subst he; simp only [Option.some.injEq] at hk; subst hk; exact ⟨h1, h2, h3⟩
    · exact wkH_look h4 hk

theorem weak_mk {t : List (Nat × Bool × AV)} {h : Heap} {nk N : Nat} (t' : List (Nat × Bool × AV)) (h' : Heap) (nk' : Nat) (ht : wkT t nk' t') (hh : wkH h nk' h') : Weak ⟨t, h, nk, N⟩ ⟨t', h', nk', N⟩ := by
  intro B m a w hs
  refine ⟨m.cut nk', hs.defers, hs.size, hs.r, ⟨?_, ?_, hs.core.z, fun b o hr => ⟨(hs.core.ro b o hr).1, fun l hl => ?_⟩, ?_, fun k c hk => ?_⟩, ?_, hs.frm, fun d => ?_⟩
  · intro l l' b h1 h2
    simp only [Mem.cut] at h1 h2
    split at h1 <;> split at h2
    · exact hs.core.inj l l' b h1 h2
    · cases h2
    · cases h1
    · cases h1
  · intro l b h1
    simp only [Mem.cut] at h1
    split at h1
    · exact hs.core.lt l b h1
    · simp at h1
  · simp only [Mem.cut] at hl
    split at hl
    · exact (hs.core.ro b o hr).2 l hl
    · simp at hl
  · intro k hk
    have : ¬ k < nk' := by have : nk' ≤ k := hk; omega
    simp [Mem.cut, Lab.key, this]
  · obtain ⟨g1, g2, g3⟩ := wkH_look hh hk
    exact cut_chunk g1 g2 (hs.core.chunk k c g3)
  · intro l b h1
    simp only [Mem.cut] at h1
    split at h1
    · exact hs.own l b h1
    · simp at h1
  · rcases wkT_look ht d with h1 | ⟨h1, h2⟩
    · refine ⟨fun _ => ?_, fun hc => ?_⟩
      · show Ok _ (look (true, .bad) t' d).2 _
        rw [h1]; simp only [Ok]
      · have : (look (true, .bad) t' d).1 = false := hc
        rw [h1] at this; simp at this
    · refine ⟨fun hc => lt_ok _ _ h2 ?_, fun hc => ?_⟩
      · have := (hs.tmps d).1
        show Ok m (look (true, .bad) t' d).2 _
        rw [h1]; exact this (by rw [← h1]; exact hc)
      · have := (hs.tmps d).2
        exact this (by rw [← h1]; exact hc)

/-- A slice that is nil is an own slice without elements. -/
theorem weak_own {s : St} {d : Nat} (e : TypeId) (E : Nat) (hd : look (true, .bad) s.t d = (true, .v (.slice none 0 0))) : Weak s ⟨(d, true, .sl s.nk E 0 0) :: s.t, (s.nk, .row e E []) :: s.h, s.nk + 1, s.N⟩ := by
  intro B m a w hs
  have hnew := hs.core.new s.nk (Nat.le_refl _)
  refine ⟨m, hs.defers, hs.size, hs.r, ⟨hs.core.inj, hs.core.lt, hs.core.z, hs.core.ro, fun k hk => hs.core.new k (by have : s.nk + 1 ≤ k := hk; omega), fun k c hk => ?_⟩, hs.own, hs.frm, fun i => ?_⟩
  · simp only [look?] at hk
    split at hk
    · rename_i he; subst he
      simp only [Option.some.injEq] at hk; subst hk
      exact .inl ⟨hnew.1, rfl⟩
    · exact hs.core.chunk k c hk
  · simp only [look]
    split
    · rename_i he; subst he
      refine ⟨fun _ => ?_, fun hc => by simp at hc⟩
      have := (hs.tmps d).1 (by rw [hd])
      rw [hd] at this
      simp only [Ok] at this ⊢
      exact ⟨none, 0, this, Nat.le_refl _, .inr ⟨rfl, rfl⟩⟩
    · exact hs.tmps i

/-! ### Loops -/
theorem V_good (hm : P.follows .mixedOrders = true) {S : List Fr} {s : St} (hw : wfT S) (h : V P K S s) : Good P K S s := V_sound hm _ S s (Nat.le_refl _) hw h

theorem least {p : Nat → Prop} (h : ∃ n, p n) : ∃ n, p n ∧ ∀ k, p k → n ≤ k := by
  obtain ⟨n, hn⟩ := h
  induction n using Nat.strongRecOn with
  | _ n ih =>
    by_cases hk : ∃ k, k < n ∧ p k
    · obtain ⟨k, h1, h2⟩ := hk; exact ih k h1 h2
    · exact ⟨n, hn, fun k hp => Nat.le_of_not_lt fun hlt => hk ⟨k, hlt, hp⟩⟩

open Classical in
theorem good_loop (hm : P.follows .mixedOrders = true) {ι : Type} (head : ι → St) (μ : ι → Nat) (i0 : ι) {c : Code} {S : List Fr} {s : St} (hw : wfS S) (h0 : Weak s (head i0))
    (h : ∀ i, V P K (.code c :: .back head μ (μ i) :: S) (head i)) : Good P K (.code (.loop c) :: S) s := by
  refine good_of_den (by simp) fun B Q hQ m a w hs => ?_
  simp only [den, Exit.then]
  have hex : ∀ a w, (∃ i mm, Sat B mm (head i) a w) → ∃ n, ∃ i mm, μ i = n ∧ Sat B mm (head i) a w := fun a w ⟨i, mm, h⟩ => ⟨_, i, mm, rfl, h⟩
  let ν : Act → World → Nat := fun a w => if hx : ∃ n, ∃ i mm, μ i = n ∧ Sat B mm (head i) a w then Classical.choose (least hx) else 0
  obtain ⟨m0, hs0⟩ := h0 B m a w hs
  refine wp_loop (fun a w => ∃ i mm, Sat B mm (head i) a w) ν ⟨i0, m0, hs0⟩ fun a w hI => ?_
  have hx := hex a w hI
  have hν : ν a w = Classical.choose (least hx) := by simp only [ν]; rw [dif_pos hx]
  obtain ⟨i, mm, hi, hsi⟩ := (Classical.choose_spec (least hx)).1
  have hg := V_good hm (S := .code c :: .back head μ (μ i) :: S) (by simp only [wfT, wfS]; exact hw) (h i)
  have := hg.use hQ (by simp) hsi
  simp only [den] at this
  refine Code.wp_mono (fun e a' w' hq => ?_) this
  cases e with
  | normal =>
    simp only [Exit.then] at hq ⊢
    obtain ⟨i', mm', hlt, hs'⟩ := hq
    refine ⟨⟨i', mm', hs'⟩, ?_⟩
    have hx' : ∃ n, ∃ i mm, μ i = n ∧ Sat B mm (head i) a' w' := ⟨_, i', mm', rfl, hs'⟩
    have : ν a' w' = Classical.choose (least hx') := by simp only [ν]; rw [dif_pos hx']
    rw [this, hν, ← hi]
    exact Nat.lt_of_le_of_lt ((Classical.choose_spec (least hx')).2 _ ⟨i', mm', rfl, hs'⟩) hlt
  | _ => exact hq

theorem good_back {ι : Type} {head : ι → St} {μ : ι → Nat} {m : Nat} {S : List Fr} {s : St} (i : ι) (hlt : μ i < m) (hw : Weak s (head i)) : Good P K (.back head μ m :: S) s :=
  good_of_den (by simp) fun B Q hQ mm a w hs => by
    simp only [den, Exit.then]
    obtain ⟨m', hs'⟩ := hw B mm a w hs
    exact ⟨i, m', hlt, hs'⟩

/-- The walk comes to a loop. -/
theorem V_loopI (hm : P.follows .mixedOrders = true) {ι : Type} (head : ι → St) (μ : ι → Nat) (i0 : ι) {c : Code} {S : List Fr} {s : St} (h0 : Weak s (head i0)) (hw : wfS S)
    (h : ∀ i, V P K (.code c :: .back head μ (μ i) :: S) (head i)) : V P K (.code (.loop c) :: S) s := by
  rw [V_loop]; exact good_loop hm head μ i0 hw h0 h
/-- The walk comes back to the loop's head. -/
theorem V_backI {ι : Type} {head : ι → St} {μ : ι → Nat} {m : Nat} {S : List Fr} {s : St} (i : ι) (hlt : μ i < m) (hw : Weak s (head i)) : V P K (.back head μ m :: S) s := by
  rw [V_back]; exact good_back i hlt hw

end Go.Eng

/- The engine, part O: contracts, calls, the entry into a function. -/
set_option linter.unusedVariables false
set_option linter.unusedSimpArgs false
namespace Go.Eng
open Go

variable {P : Program} {K : St → Prop}

/-! ### What is owned, seen as read-only -/
/-- The memory seen from a callee that owns nothing. -/
def roM (r : Nat → Option Obj) (w : World) : Mem := ⟨r, fun _ => none, bsz w⟩
def totR (w : World) : Nat → Option Obj := fun b => w.heap[b]?

def roSl (E lo n : Nat) : Option Chunk → AV
  | some (.row _ E' rows) => if E' = E ∧ lo + n ≤ rows.length then .rd E ((rows.drop lo).take n) else .bad
  | _ => .bad
def roRow (i j E lo n : Nat) : Option Cell → AV
  | some (.s _ E' rs) => if E' = E ∧ lo + n ≤ rs.length then .rd E (((rs.map (·.map .v)).drop lo).take n) else .bad
  | _ => .bad
def roSub (i j E lo n : Nat) : Option Chunk → AV
  | some (.row _ _ rows) => if i < rows.length then roRow i j E lo n (rows.getD i [])[j]? else .bad
  | _ => .bad
def roPtr (f : AV → AV) (i j E : Nat) : Option Chunk → AV
  | some (.row _ E' rows) => if E' = E ∧ i < rows.length then .rp (rows.getD i []) j else .bad
  | some (.box _ cells) => .rq (cells.map f) (i * E + j)
  | _ => .bad
def roV (h : Heap) : Nat → AV → AV
  | 0, _ => .bad
  | d + 1, .sl k E lo n => roSl E lo n (look? h k)
  | d + 1, .sub k i j E lo n => roSub i j E lo n (look? h k)
  | d + 1, .ptr k E i j => roPtr (roV h d) i j E (look? h k)
  | d + 1, .subp .. => .bad
  | d + 1, .agg xs => .agg (xs.map (roV h d))
  | d + 1, .tup xs => .tup (xs.map (roV h d))
  | d + 1, .fn f xs => .fn f (xs.map (roV h d))
  | d + 1, .rq xs j => .rq (xs.map (roV h d)) j
  | d + 1, .v x => .v x
  | d + 1, .rd E rows => .rd E rows
  | d + 1, .rp row j => .rp row j
  | d + 1, .bad => .bad

section
variable (h : Heap) (d k E lo n i j : Nat) (xs : List AV) (rows : List (List Cell))
theorem roV_sl : roV h (d + 1) (.sl k E lo n) = roSl E lo n (look? h k) := rfl
theorem roV_sub : roV h (d + 1) (.sub k i j E lo n) = roSub i j E lo n (look? h k) := rfl
theorem roV_ptr : roV h (d + 1) (.ptr k E i j) = roPtr (roV h d) i j E (look? h k) := rfl
theorem roV_agg : roV h (d + 1) (.agg xs) = .agg (xs.map (roV h d)) := rfl
theorem roV_fn (f) : roV h (d + 1) (.fn f xs) = .fn f (xs.map (roV h d)) := rfl
theorem roV_rq : roV h (d + 1) (.rq xs j) = .rq (xs.map (roV h d)) j := rfl
theorem roV_v (x) : roV h (d + 1) (.v x) = .v x := rfl
theorem roV_rd : roV h (d + 1) (.rd E rows) = .rd E rows := rfl
theorem roV_rp (row) : roV h (d + 1) (.rp row j) = .rp row j := rfl
theorem roV_bad : roV h (d + 1) .bad = .bad := rfl
theorem roSl_row (e E') : roSl E lo n (some (.row e E' rows)) = if E' = E ∧ lo + n ≤ rows.length then .rd E ((rows.drop lo).take n) else .bad := rfl
theorem roSub_row (e E') : roSub i j E lo n (some (.row e E' rows)) = if i < rows.length then roRow i j E lo n (rows.getD i [])[j]? else .bad := rfl
theorem roRow_s (e E' rs) : roRow i j E lo n (some (.s e E' rs)) = if E' = E ∧ lo + n ≤ rs.length then .rd E (((rs.map (·.map .v)).drop lo).take n) else .bad := rfl
theorem roPtr_row (f e E') : roPtr f i j E (some (.row e E' rows)) = if E' = E ∧ i < rows.length then .rp (rows.getD i []) j else .bad := rfl
theorem roPtr_box (f e cells) : roPtr f i j E (some (.box e cells)) = .rq (cells.map f) (i * E + j) := rfl
end

theorem cellIn_tot {w : World} {b o : Nat} {y : Value} {vs : Array Value} {e : TypeId} {fr : Nat × Nat} (hw : w.heap[b]? = some (.cells vs e fr)) (hy : vs[o]? = some y) : cellIn (totR w) b o = some y := by
  simp [cellIn, totR, hw, hy]
theorem cellIn_up {m : Mem} {w : World} {h : Heap} {nk : Nat} (hc : Core m w h nk) {b o : Nat} {y : Value} (hy : cellIn m.r b o = some y) : cellIn (totR w) b o = some y := by
  unfold cellIn at hy
  split at hy
  · rename_i c e fr hr
    exact cellIn_tot (hc.ro b _ hr).1 hy
  · simp at hy
theorem RdFlat.up {m : Mem} {w : World} {h : Heap} {nk : Nat} (hc : Core m w h nk) {E : Nat} {rows : List (List Value)} {u : Value} (hx : RdFlat m.r E rows u) : RdFlat (totR w) E rows u := by
  obtain ⟨A, c, h1, h2, h3⟩ := hx
  refine ⟨A, c, h1, h2, fun i row hi => ?_⟩
  obtain ⟨b, o, g1, g2, g3⟩ := h3 i row hi
  exact ⟨b, o, g1, g2, fun j x hj => cellIn_up hc (g3 j x hj)⟩
theorem RdCell.up {m : Mem} {w : World} {h : Heap} {nk : Nat} (hc : Core m w h nk) {c : Cell} {u : Value} (hx : RdCell m.r c u) : RdCell (totR w) c u := by
  cases c with
  | v x => exact hx
  | s e E rows => exact RdFlat.up hc hx
theorem RdRow.up {m : Mem} {w : World} {h : Heap} {nk : Nat} (hc : Core m w h nk) {E : Nat} {rows : List (List Cell)} {u : Value} (hx : RdRow m.r E rows u) : RdRow (totR w) E rows u := by
  obtain ⟨A, c, h1, h2, h3⟩ := hx
  refine ⟨A, c, h1, h2, fun i row hi => ?_⟩
  obtain ⟨b, o, g1, g2, g3⟩ := h3 i row hi
  refine ⟨b, o, g1, g2, fun j x hj => ?_⟩
  obtain ⟨y, k1, k2⟩ := g3 j x hj
  exact ⟨y, cellIn_up hc k1, RdCell.up hc k2⟩

/-- A nested slice of a row, read. -/
theorem nest_flat {m : Mem} {w : World} {l : Lab} {e : TypeId} {E : Nat} {rs : List (List Value)} {lo n : Nat} {u : Value} (hs : OwnSl (m.b l) m.z E lo n u) (hn : NestOk m w l e E rs) (hl : lo + n ≤ rs.length) : RdFlat (totR w) E ((rs.drop lo).take n) u := by
  obtain ⟨A, cap, hu, hc, h⟩ := hs
  have hlen : ((rs.drop lo).take n).length = n := by simp; omega
  refine ⟨A, cap, by rw [hlen]; exact hu, by rw [hlen]; exact hc, fun i row hi => ?_⟩
  have hin : i < n := by rw [← hlen]; exact (List.getElem?_eq_some_iff.1 hi).1
  rcases hn with ⟨_, h0⟩ | ⟨b, vs, fr, n1, n2, n3, n4, n5⟩
  · subst h0; simp at hi
  · rcases h with ⟨b', h1, h2, _⟩ | ⟨h1, _⟩
    · rw [n1] at h1; simp only [Option.some.injEq] at h1; subst h1
      rw [List.getElem?_take_of_lt hin, List.getElem?_drop] at hi
      obtain ⟨g1, g2⟩ := n5 _ row hi
      refine ⟨b, lo * E, h2, g1, fun j x hj => ?_⟩
      have := g2 j x hj
      rw [Nat.add_mul] at this
      exact cellIn_tot n2 this
    · omega

theorem cell_ro {m : Mem} {w : World} {l : Lab} {c : Cell} {y : Value} (h : CellOk m w l c y) : RdCell (totR w) c y := by
  cases c with
  | v x => exact h
  | s e E rows =>
    obtain ⟨h1, h2⟩ := h
    have := nest_flat h1 h2 (by simp)
    simpa [RdCell] using this

theorem Oks.map {m m' : Mem} {f : AV → AV} (hf : ∀ x u, Ok m x u → Ok m' (f x) u) : ∀ {xs : List AV} {us : List Value}, Oks m xs us → Oks m' (xs.map f) us
  | [], _, h => by simp only [Oks, List.map_nil] at h ⊢; exact h
  | x :: xs, _, h => by
    simp only [Oks, List.map_cons] at h ⊢
    obtain ⟨u, vs, h1, h2, h3⟩ := h
    exact ⟨u, vs, h1, hf x u h2, Oks.map hf h3⟩

theorem roV_ok {m : Mem} {w : World} {h : Heap} {nk : Nat} (hc : Core m w h nk) : ∀ (d : Nat) (x : AV) (u : Value), Ok m x u → Ok (roM (totR w) w) (roV h d x) u
  | 0, _, _, _ => by simp only [roV]; exact ok_bad
  | d + 1, x, u, hx => by
    cases x with
    | v x => simp only [roV, Ok] at hx ⊢; exact hx
    | rd E rows => simp only [roV, Ok] at hx ⊢; exact hx.up hc
    | rp row j =>
      simp only [roV, Ok] at hx ⊢
      obtain ⟨b, o, h1, h2⟩ := hx
      refine ⟨b, o, h1, fun i c hi => ?_⟩
      obtain ⟨y, g1, g2⟩ := h2 i c hi
      exact ⟨y, cellIn_up hc g1, g2.up hc⟩
    | rq xs j =>
      simp only [roV, Ok] at hx ⊢
      obtain ⟨b, o, us, h1, h2, h3⟩ := hx
      exact ⟨b, o, us, h1, fun i y hi => cellIn_up hc (h2 i y hi), h3.map fun x u => roV_ok hc d x u⟩
    | agg xs => simp only [roV, Ok] at hx ⊢; obtain ⟨us, h1, h2⟩ := hx; exact ⟨us, h1, h2.map fun x u => roV_ok hc d x u⟩
    | tup xs => simp only [roV, Ok] at hx ⊢; obtain ⟨us, h1, h2⟩ := hx; exact ⟨us, h1, h2.map fun x u => roV_ok hc d x u⟩
    | fn f xs => simp only [roV, Ok] at hx ⊢; obtain ⟨us, h1, h2⟩ := hx; exact ⟨us, h1, h2.map fun x u => roV_ok hc d x u⟩
    | bad => simp only [roV]; exact ok_bad
    | subp => simp only [roV]; exact ok_bad
    | sl k E lo n =>
      simp only [roV]
      cases hk : look? h k with
      | none => exact ok_bad
      | some c =>
        cases c with
        | box => exact ok_bad
        | pin => exact ok_bad
        | fact => exact ok_bad
        | row e E' rows =>
          simp only [roSl]
          split
          · rename_i hcond
            obtain ⟨rfl, hl⟩ := hcond
            have hch := hc.chunk k _ hk
            simp only [Ok] at hx ⊢
            obtain ⟨A, cap, hu, hcap, h'⟩ := hx
            have hlen : ((rows.drop lo).take n).length = n := by simp; omega
            refine ⟨A, cap, by rw [hlen]; exact hu, by rw [hlen]; exact hcap, fun i row hi => ?_⟩
            have hin : i < n := by rw [← hlen]; exact (List.getElem?_eq_some_iff.1 hi).1
            rcases hch with ⟨_, h0⟩ | ⟨b, vs, fr, n1, n2, n3, n4, n5⟩
            · subst h0; simp at hi
            · rcases h' with ⟨b', h1, h2, _⟩ | ⟨h1, _⟩
              · rw [n1] at h1; simp only [Option.some.injEq] at h1; subst h1
                rw [List.getElem?_take_of_lt hin, List.getElem?_drop] at hi
                obtain ⟨g1, g2⟩ := n5 _ row hi
                refine ⟨b, lo * E', h2, g1, fun j x hj => ?_⟩
                obtain ⟨y, g3, g4⟩ := g2 j x hj
                rw [Nat.add_mul] at g3
                exact ⟨y, cellIn_tot n2 g3, cell_ro g4⟩
              · omega
          · exact ok_bad
    | sub k i j E lo n =>
      simp only [roV]
      cases hk : look? h k with
      | none => exact ok_bad
      | some c =>
        cases c with
        | box => exact ok_bad
        | pin => exact ok_bad
        | fact => exact ok_bad
        | row e E' rows =>
          simp only [roSub]
          split
          · rename_i hi
            cases hcj : (rows.getD i [])[j]? with
            | none => exact ok_bad
            | some c =>
              cases c with
              | v => exact ok_bad
              | s e2 E2 rs =>
                simp only [roRow]
                split
                · rename_i hcond
                  obtain ⟨rfl, hl⟩ := hcond
                  have hch := hc.chunk k _ hk
                  simp only [Ok] at hx ⊢
                  rcases hch with ⟨_, h0⟩ | ⟨b, vs, fr, n1, n2, n3, n4, n5⟩
                  · subst h0; simp at hi
                  · have hrow : rows[i]? = some (rows.getD i []) := by simp [List.getD_eq_getElem?_getD, hi]
                    obtain ⟨y, _, hco⟩ := (n5 i _ hrow).2 j _ hcj
                    have := (nest_flat hx hco.2 hl).ro
                    show RdRow (totR w) _ _ _
                    simpa [List.map_take, List.map_drop] using this
                · exact ok_bad
          · exact ok_bad
    | ptr k E i j =>
      simp only [roV]
      cases hk : look? h k with
      | none => exact ok_bad
      | some c =>
        have hch := hc.chunk k _ hk
        simp only [Ok] at hx
        obtain ⟨b, hb, rfl⟩ := hx
        cases c with
        | pin => exact ok_bad
        | fact => exact ok_bad
        | box e cells =>
          obtain ⟨b', vs, fr, n1, n2, n3, n4⟩ := hch
          rw [hb] at n1; simp only [Option.some.injEq] at n1; subst n1
          simp only [roPtr, Ok]
          refine ⟨b, 0, vs.toList, by simp, fun i y hi => ?_, n4.map fun x u => roV_ok hc d x u⟩
          rw [Nat.zero_add]
          exact cellIn_tot n2 (by simpa using hi)
        | row e E' rows =>
          simp only [roPtr]
          split
          · rename_i hcond
            obtain ⟨rfl, hi⟩ := hcond
            rcases hch with ⟨h1, _⟩ | ⟨b', vs, fr, n1, n2, n3, n4, n5⟩
            · rw [hb] at h1; simp at h1
            · rw [hb] at n1; simp only [Option.some.injEq] at n1; subst n1
              have hrow : rows[i]? = some (rows.getD i []) := by simp [List.getD_eq_getElem?_getD, hi]
              simp only [Ok]
              refine ⟨b, i * E', rfl, fun q c hq => ?_⟩
              obtain ⟨y, g1, g2⟩ := (n5 i _ hrow).2 q c hq
              exact ⟨y, cellIn_tot n2 g1, cell_ro g2⟩
          · exact ok_bad

/-! ### Contracts -/
def RoM (r : Nat → Option Obj) (w : World) : Prop := ∀ b o, r b = some o → w.heap[b]? = some o
theorem totR_ok (w : World) : RoM (totR w) w := fun _ _ h => h

def Enters (P : Program) (f : FuncId) : Prop := ∀ args w, (callFunc f args).run P w = .ok (.enter f args) w

/-- f reads its arguments, and returns the flat value v. -/
structure Gives (P : Program) (f : FuncId) (xs : List AV) (v : Value) : Prop where
  enter : Enters P f
  calls : ∀ (r : Nat → Option Obj) (w : World) (us : List Value), RoM r w → Oks (roM r w) xs us → Calls P f us.toArray w (fun e w' => e = .returned v ∧ RowKit.Below w.heap.size w w')

/-- f reads its arguments, and returns av, with new chunks h, whose keys are below n. -/
structure Reads (P : Program) (f : FuncId) (xs : List AV) (av : AV) (h : Heap) (n : Nat) : Prop where
  enter : Enters P f
  calls : ∀ (r : Nat → Option Obj) (w : World) (us : List Value), RoM r w → Oks (roM r w) xs us → Calls P f us.toArray w (fun e w' =>
    ∃ u m', e = .returned u ∧ RowKit.Below w.heap.size w w' ∧ Ok m' av u ∧ Core m' w' h n ∧ m'.r = r ∧ ∀ l b, m'.b l = some b → w.heap.size ≤ b)

/-- The first temporaries: the arguments. -/
def argT : Nat → List AV → List (Nat × Bool × AV)
  | _, [] => []
  | i, x :: xs => (i, true, x) :: argT (i + 1) xs
theorem argT_nil (i : Nat) : argT i [] = [] := rfl
theorem argT_cons (i : Nat) (x : AV) (xs : List AV) : argT i (x :: xs) = (i, true, x) :: argT (i + 1) xs := rfl
theorem argT_look : ∀ (xs : List AV) (i d : Nat), look (true, .bad) (argT i xs) d = (true, if i ≤ d then xs.getD (d - i) .bad else .bad)
  | [], i, d => by simp [argT, look]
  | x :: xs, i, d => by
    simp only [argT, look]
    by_cases h : i = d
    · subst h; simp
    · rw [if_neg h, argT_look xs (i + 1) d]
      by_cases h2 : i ≤ d
      · rw [if_pos h2, if_pos (by omega)]
        obtain ⟨c, hc⟩ : ∃ c, d - i = c + 1 := ⟨d - i - 1, by omega⟩
        rw [hc]
        have : d - (i + 1) = c := by omega
        rw [this]; simp
      · rw [if_neg h2, if_neg (by omega)]

theorem sat_start {r : Nat → Option Obj} {w : World} {xs : List AV} {us : List Value} {N : Nat} (hr : RoM r w) (hx : Oks (roM r w) xs us) (hN : xs.length ≤ N) :
    Sat ⟨w, fun _ => False, r⟩ (roM r w) ⟨argT 0 xs, [], 0, N⟩ { tmps := us.toArray ++ Array.replicate (N - us.toArray.size) undef, defers := [] } w := by
  have hl := hx.length
  refine ⟨rfl, by simp [hl]; omega, rfl, ⟨by simp [roM], by simp [roM], fun _ => rfl, fun b o h => ⟨hr b o h, by simp [roM]⟩, by simp [roM], by simp [look?]⟩, by simp [roM], Frm.refl _ _, fun d => ⟨fun _ => ?_, fun hc => ?_⟩⟩
  · show Ok _ (look (true, .bad) (argT 0 xs) d).2 _
    rw [argT_look]
    simp only [Nat.zero_le, if_true, Nat.sub_zero]
    by_cases hd : d < xs.length
    · obtain ⟨u, hu, hok⟩ := hx.get (show xs[d]? = some (xs.getD d .bad) by simp [List.getD_eq_getElem?_getD, hd])
      have : (us.toArray ++ Array.replicate (N - us.toArray.size) undef).getD d undef = u := by
        have hd' : d < us.length := by omega
        have : us[d]? = some us[d] := by simp [hd']
        rw [hu] at this; simp only [Option.some.injEq] at this
        simp [Array.getD_eq_getD_getElem?, Array.getElem?_append, hd', this]
      show Ok _ _ (Array.getD _ d undef)
      rw [this]; exact hok
    · have : xs.getD d .bad = .bad := by simp [List.getD_eq_getElem?_getD, Nat.le_of_not_lt hd]
      rw [this]; exact ok_bad
  · have : (look (true, .bad) (argT 0 xs) d).1 = false := hc
    rw [argT_look] at this; simp at this

theorem frm_below {w w' : World} (h : Frm w (fun _ => False) w') : RowKit.Below w.heap.size w w' :=
  ⟨h.os, h.tape, h.output, h.size, fun b hb => h.block b hb (fun h => h)⟩

/-- What the result variables hold. -/
def resE (P : Program) (s : St) : ResultVar → AV
  | .tmp t => (look (true, .bad) s.t t).2
  | .cell a t => loadAV P s.h t (look (true, .bad) s.t a).2
def resAV (P : Program) (s : St) : List ResultVar → AV
  | [x] => resE P s x
  | rv => .tup (rv.map (resE P s))
def resP (P : Program) (s : St) : List ResultVar → Prop
  | [] => True
  | .tmp t :: r => (look (true, .bad) s.t t).1 = true ∧ resP P s r
  | .cell a t :: r => ((look (true, .bad) s.t a).1 = true ∧ ((szT P t).isSome = true ∧ (P.underlying t).isSome = true) ∧ loadP P s.h t (look (true, .bad) s.t a).2) ∧ resP P s r
theorem resE_tmp (s : St) (t : Tmp) : resE P s (.tmp t) = (look (true, .bad) s.t t).2 := rfl
theorem resE_cell (s : St) (a : Tmp) (t : TypeId) : resE P s (.cell a t) = loadAV P s.h t (look (true, .bad) s.t a).2 := rfl
theorem resAV_one (s : St) (x : ResultVar) : resAV P s [x] = resE P s x := rfl
theorem resAV_two (s : St) (x y : ResultVar) : resAV P s [x, y] = .tup [resE P s x, resE P s y] := rfl
theorem resAV_three (s : St) (x y z : ResultVar) : resAV P s [x, y, z] = .tup [resE P s x, resE P s y, resE P s z] := rfl
theorem resAV_nil (s : St) : resAV P s [] = .tup [] := rfl
theorem resP_nil (s : St) : resP P s [] = True := rfl
theorem resP_cons (s : St) (t : Tmp) (r) : resP P s (.tmp t :: r) = ((look (true, .bad) s.t t).1 = true ∧ resP P s r) := rfl
theorem resP_cell (s : St) (a : Tmp) (t : TypeId) (r) : resP P s (.cell a t :: r) = (((look (true, .bad) s.t a).1 = true ∧ ((szT P t).isSome = true ∧ (P.underlying t).isSome = true) ∧ loadP P s.h t (look (true, .bad) s.t a).2) ∧ resP P s r) := rfl

def rvRun (tmps : Array Value) : ResultVar → Sem Value
  | .tmp t => pure (tmps.getD t undef)
  | .cell a t => do loadVar t (← asAddr (tmps.getD a undef))
theorem results_eq (fn : Func) (tmps : Array Value) : results fn tmps = (do
    let vs ← fn.results.mapM (rvRun tmps)
    pure (if h : vs.size = 1 then vs[0] else .tuple vs)) := by
  unfold results
  congr 1
theorem res_list {B : Base} {m : Mem} {s : St} {a : Act} {w : World} (h : Sat B m s a w) : ∀ {rv : List ResultVar}, resP P s rv → ∃ vs : List Value, (rv.mapM (rvRun a.tmps)).run P w = .ok vs w ∧ Oks m (rv.map (resE P s)) vs
  | [], _ => ⟨[], by simp, by simp only [List.map_nil, Oks]⟩
  | .tmp t :: rv, hp => by
    simp only [resP] at hp
    obtain ⟨vs, h1, h2⟩ := res_list h hp.2
    refine ⟨a.tmps.getD t undef :: vs, ?_, ?_⟩
    · rw [List.mapM_cons]
      simp only [rvRun, Sem.run_bind, Sem.run_pure, Result.andThen_ok, h1]
    · simp only [List.map_cons, Oks, resE]
      exact ⟨_, _, rfl, (h.tmps t).1 hp.1, h2⟩
  | .cell p t :: rv, hp => by
    simp only [resP] at hp
    obtain ⟨⟨q1, q2, q3⟩, hp⟩ := hp
    obtain ⟨vs, h1, h2⟩ := res_list h hp
    obtain ⟨z, g1, g2⟩ := load_run h.core ((h.tmps p).1 q1) q3 q2
    have g3 := g2 w (RowKit.Below.refl _ _)
    have g4 : (do loadVar t (← asAddr (a.tmps.getD p undef)) : Sem Value).run P w = .ok z w := by
      generalize a.tmps.getD p undef = u at *
      unfold Instr.loadAt Instr.sureAddr at g3
      unfold asAddr
      split at g3
      · simpa using g3
      · simp at g3
    refine ⟨z :: vs, ?_, ?_⟩
    · rw [List.mapM_cons]
      simp only [rvRun, Sem.run_bind, Sem.run_pure, Result.andThen_ok, h1] at g4 ⊢
      rw [g4]
      simp only [Result.andThen_ok, h1]
    · simp only [List.map_cons, Oks, resE]
      exact ⟨_, _, rfl, g1, h2⟩

theorem results_run {B : Base} {m : Mem} {s : St} {a : Act} {w : World} (h : Sat B m s a w) {fn : Func} (hp : resP P s fn.results.toList) : ∃ u, Ok m (resAV P s fn.results.toList) u ∧ (results fn a.tmps).run P w = .ok u w := by
  obtain ⟨vs, h1, h2⟩ := res_list (P := P) h hp
  have hm : (fn.results.mapM (rvRun a.tmps)).run P w = .ok vs.toArray w := by
    rw [Array.mapM_eq_mapM_toList]
    simp only [map_eq_pure_bind, Sem.run_bind, h1, Result.andThen_ok, Sem.run_pure]
  have hrun : (results fn a.tmps).run P w = .ok (if h : vs.toArray.size = 1 then vs.toArray[0] else .tuple vs.toArray) w := by
    rw [results_eq]
    simp only [Sem.run_bind]
    rw [hm]
    simp only [Result.andThen_ok, Sem.run_pure]
  refine ⟨_, ?_, hrun⟩
  generalize fn.results.toList = rv at *
  match rv, vs, h2 with
  | [], vs, h2 => simp only [List.map_nil, Oks] at h2; subst h2; simp only [resAV, Ok, List.map_nil, Oks]; exact ⟨[], by simp, rfl⟩
  | [x], vs, h2 =>
    simp only [List.map_cons, List.map_nil, Oks] at h2
    obtain ⟨u, _, rfl, h3, rfl⟩ := h2
    simpa [resAV] using h3
  | x :: y :: rv, vs, h2 =>
    have hl := h2.length
    simp only [List.length_map, List.length_cons] at hl
    rw [dif_neg (by simp; omega)]
    simp only [resAV, Ok]
    exact ⟨vs, rfl, h2⟩

theorem gives_of_V (hm : P.follows .mixedOrders = true) {f : FuncId} {fn : Func} {c : Code} {xs : List AV} {v : Value} (he : Enters P f) (hf : P.funcs[f]? = some fn) (hb : fn.body = some c) (hN : xs.length ≤ fn.ntmps)
    (h : V P (fun s => resP P s fn.results.toList ∧ resAV P s fn.results.toList = .v v) [.code c] ⟨argT 0 xs, [], 0, fn.ntmps⟩) : Gives P f xs v := by
  refine ⟨he, fun r w us hr hx => ?_⟩
  refine calls_of_wp hf hb ?_
  have hs := sat_start (N := fn.ntmps) hr hx hN
  have hg := V_good hm (S := [.code c]) (by simp only [wfT, wfS]) h
  have := hg.use (B := ⟨w, fun _ => False, r⟩) (Q := bodyPost P fn (fun e w' => e = .returned v ∧ RowKit.Below w.heap.size w w')) (fun m s a w' hs hk => by
    obtain ⟨u, h1, h2⟩ := results_run (P := P) hs hk.1
    rw [hk.2] at h1
    rw [ok_v] at h1; subst h1
    exact ⟨⟨hs.defers, _, h2, rfl, frm_below hs.frm⟩, ⟨hs.defers, _, h2, rfl, frm_below hs.frm⟩⟩) (by simp) hs
  simp only [den, Exit.then] at this
  refine Code.wp_mono (fun e a w hq => ?_) this
  cases e <;> exact hq

theorem reads_of_V (hm : P.follows .mixedOrders = true) {f : FuncId} {fn : Func} {c : Code} {xs : List AV} {av : AV} {hp : Heap} {n : Nat} (he : Enters P f) (hf : P.funcs[f]? = some fn) (hb : fn.body = some c) (hN : xs.length ≤ fn.ntmps)
    (h : V P (fun s => resP P s fn.results.toList ∧ resAV P s fn.results.toList = av ∧ AV.lt n av ∧ wkH s.h n hp) [.code c] ⟨argT 0 xs, [], 0, fn.ntmps⟩) : Reads P f xs av hp n := by
  refine ⟨he, fun r w us hr hx => ?_⟩
  refine calls_of_wp hf hb ?_
  have hs := sat_start (N := fn.ntmps) hr hx hN
  have hg := V_good hm (S := [.code c]) (by simp only [wfT, wfS]) h
  have := hg.use (B := ⟨w, fun _ => False, r⟩) (Q := bodyPost P fn (fun e w' => ∃ u m', e = .returned u ∧ RowKit.Below w.heap.size w w' ∧ Ok m' av u ∧ Core m' w' hp n ∧ m'.r = r ∧ ∀ l b, m'.b l = some b → w.heap.size ≤ b)) (fun m s a w' hs hk => by
    obtain ⟨u, h1, h2⟩ := results_run (P := P) hs hk.1
    obtain ⟨k1, rfl, k2, k3⟩ := hk
    have hs' : Sat ⟨w, fun _ => False, r⟩ (m.cut n) ⟨[], hp, n, s.N⟩ a w' := by
      obtain ⟨m', hm'⟩ : ∃ m', m' = m.cut n := ⟨_, rfl⟩
      refine ⟨hs.defers, hs.size, hs.r, ⟨?_, ?_, hs.core.z, fun b o hr => ⟨(hs.core.ro b o hr).1, fun l hl => ?_⟩, ?_, fun k c hk => ?_⟩, ?_, hs.frm, fun d => ⟨fun _ => ok_bad, fun hc => by simp [look] at hc⟩⟩
      · intro l l' b h1 h2
        simp only [Mem.cut] at h1 h2
        split at h1 <;> split at h2
        · exact hs.core.inj l l' b h1 h2
        · cases h2
        · cases h1
        · cases h1
      · intro l b h1
        simp only [Mem.cut] at h1
        split at h1
        · exact hs.core.lt l b h1
        · simp at h1
      · simp only [Mem.cut] at hl
        split at hl
        · exact (hs.core.ro b o hr).2 l hl
        · simp at hl
      · intro k hk
        have : ¬ k < n := by have : n ≤ k := hk; omega
        simp [Mem.cut, Lab.key, this]
      · obtain ⟨g1, g2, g3⟩ := wkH_look k3 hk
        exact cut_chunk g1 g2 (hs.core.chunk k c g3)
      · intro l b h1
        simp only [Mem.cut] at h1
        split at h1
        · exact hs.own l b h1
        · simp at h1
    have hres : ∃ u' m', Ending.returned u = .returned u' ∧ RowKit.Below w.heap.size w w' ∧ Ok m' (resAV P s fn.results.toList) u' ∧ Core m' w' hp n ∧ m'.r = r ∧ ∀ l b, m'.b l = some b → w.heap.size ≤ b :=
      ⟨u, m.cut n, rfl, frm_below hs.frm, lt_ok _ _ k2 h1, hs'.core, hs'.r, fun l b hl => (hs'.own l b hl).elim (fun h => h.elim) (fun h => h)⟩
    exact ⟨⟨hs.defers, _, h2, hres⟩, ⟨hs.defers, _, h2, hres⟩⟩) (by simp) hs
  simp only [den, Exit.then] at this
  refine Code.wp_mono (fun e a w hq => ?_) this
  cases e <;> exact hq

end Go.Eng

/- The engine, part Q: the walk comes to a call. -/
set_option linter.unusedVariables false
set_option linter.unusedSimpArgs false
set_option linter.unusedSectionVars false
namespace Go.Eng
open Go

variable {P : Program} {K : St → Prop}

theorem Oks.append {m : Mem} : ∀ {xs : List AV} {us : List Value} {ys : List AV} {vs : List Value}, Oks m xs us → Oks m ys vs → Oks m (xs ++ ys) (us ++ vs)
  | [], _, _, _, h, h2 => by simp only [Oks] at h; subst h; simpa using h2
  | x :: xs, _, _, _, h, h2 => by
    simp only [Oks] at h
    obtain ⟨u, us, rfl, h1, h3⟩ := h
    simp only [List.cons_append, Oks]
    exact ⟨u, us ++ _, rfl, h1, Oks.append h3 h2⟩

/-- The machine enters the function, with what the operands stand for. -/
theorem call_enter {B : Base} {m : Mem} {s : St} {a : Act} {w : World} (hs : Sat B m s a w) {o : Oper} {fo : Operand} {args : List Operand} {ts : Array TypeId} (ho : o.op = .call ⟨.value fo, ⟨args⟩, ts⟩)
    {f : FuncId} {cap : List AV} (hfo : s.ev fo = (true, .fn f cap)) (hev : evsP s args) (he : Enters P f) :
    ∃ us, Oks m (evs s args ++ cap) us ∧ ∀ w', (execOp a.eval o).run P w' = .ok (.enter f us.toArray) w' := by
  have hf := ev_ok hs fo (by rw [hfo])
  rw [hfo] at hf
  simp only [Ok] at hf
  obtain ⟨cs, hf, hcs⟩ := hf
  have hargs := Oks.evs (fun y hy => ev_ok hs y hy) args hev
  refine ⟨args.map a.eval ++ cs, hargs.append hcs, fun w' => ?_⟩
  simp only [execOp, ho, resolve, Deferred.ofValue, hf, Sem.run_bind, Sem.run_pure, Result.andThen_ok, invoke]
  have := he ((args.map a.eval).toArray ++ cs.toArray) w'
  simpa using this

theorem V_call {q : Bool} {all r : List Oper} {d : Option Tmp} {ty : TypeId} {ps : String} {af : Array Edge} {g : Option (Nat × Bool)} {S : List Fr} {s : St} {fo : Operand} {args : List Operand} {ts : Array TypeId} :
    V P K (.ops q all (⟨d, .call ⟨.value fo, ⟨args⟩, ts⟩, ty, ps, af, g⟩ :: r) :: S) s = Good P K (.ops q all (⟨d, .call ⟨.value fo, ⟨args⟩, ts⟩, ty, ps, af, g⟩ :: r) :: S) s := by
  rw [V_ops]
  cases q <;> rfl


/-! ### A nil slice fits where a slice without elements is asked for -/
mutual
/-- What x stands for is also what y stands for. -/
def fits : AV → AV → Prop
  | x, .rd E rows => x = .rd E rows ∨ (x = .v (.slice none 0 0) ∧ rows = [])
  | .agg xs, .agg ys => fitsL xs ys
  | .rq xs i, .rq ys j => i = j ∧ fitsL xs ys
  | _, .bad => True
  | x, y => x = y
def fitsL : List AV → List AV → Prop
  | [], [] => True
  | x :: xs, y :: ys => fits x y ∧ fitsL xs ys
  | _, _ => False
end
mutual
theorem fits_ok {m : Mem} : ∀ (x y : AV) (u : Value), fits x y → Ok m x u → Ok m y u
  | x, .rd E rows, u, hf, h => by
    simp only [fits] at hf
    rcases hf with rfl | ⟨rfl, rfl⟩
    · exact h
    · rw [ok_v] at h; subst h
      simp only [Ok]
      exact ⟨none, 0, rfl, Nat.le_refl _, fun i row hi => by simp at hi⟩
  | .agg xs, .agg ys, u, hf, h => by
    simp only [fits] at hf
    simp only [Ok] at h ⊢
    obtain ⟨us, h1, h2⟩ := h
    exact ⟨us, h1, fitsL_ok xs ys us hf h2⟩
  | .rq xs i, .rq ys j, u, hf, h => by
    simp only [fits] at hf
    obtain ⟨rfl, hf⟩ := hf
    simp only [Ok] at h ⊢
    obtain ⟨b, o, us, h1, h2, h3⟩ := h
    exact ⟨b, o, us, h1, h2, fitsL_ok xs ys us hf h3⟩
  | x, .bad, u, hf, h => ok_bad
  | x, .v y, u, hf, h => by cases x <;> simp only [fits] at hf <;> first | (rw [← hf]; exact h) | (cases hf)
  | x, .rp r j, u, hf, h => by cases x <;> simp only [fits] at hf <;> first | (rw [← hf]; exact h) | (cases hf)
  | x, .sl k E lo n, u, hf, h => by cases x <;> simp only [fits] at hf <;> first | (rw [← hf]; exact h) | (cases hf)
  | x, .ptr k E i j, u, hf, h => by cases x <;> simp only [fits] at hf <;> first | (rw [← hf]; exact h) | (cases hf)
  | x, .sub k i j E lo n, u, hf, h => by cases x <;> simp only [fits] at hf <;> first | (rw [← hf]; exact h) | (cases hf)
  | x, .subp k i j E l q, u, hf, h => by cases x <;> simp only [fits] at hf <;> first | (rw [← hf]; exact h) | (cases hf)
  | x, .tup ys, u, hf, h => by cases x <;> simp only [fits] at hf <;> first | (rw [← hf]; exact h) | (cases hf)
  | x, .fn f ys, u, hf, h => by cases x <;> simp only [fits] at hf <;> first | (rw [← hf]; exact h) | (cases hf)
  | .v y, .agg ys, u, hf, h => by simp only [fits] at hf; cases hf
  | .rd .., .agg ys, u, hf, h => by simp only [fits] at hf; cases hf
  | .rp .., .agg ys, u, hf, h => by simp only [fits] at hf; cases hf
  | .rq .., .agg ys, u, hf, h => by simp only [fits] at hf; cases hf
  | .sl .., .agg ys, u, hf, h => by simp only [fits] at hf; cases hf
  | .ptr .., .agg ys, u, hf, h => by simp only [fits] at hf; cases hf
  | .sub .., .agg ys, u, hf, h => by simp only [fits] at hf; cases hf
  | .subp .., .agg ys, u, hf, h => by simp only [fits] at hf; cases hf
  | .tup .., .agg ys, u, hf, h => by simp only [fits] at hf; cases hf
  | .fn .., .agg ys, u, hf, h => by simp only [fits] at hf; cases hf
  | .bad, .agg ys, u, hf, h => by simp only [fits] at hf; cases hf
  | .v y, .rq ys j, u, hf, h => by simp only [fits] at hf; cases hf
  | .rd .., .rq ys j, u, hf, h => by simp only [fits] at hf; cases hf
  | .rp .., .rq ys j, u, hf, h => by simp only [fits] at hf; cases hf
  | .agg .., .rq ys j, u, hf, h => by simp only [fits] at hf; cases hf
  | .sl .., .rq ys j, u, hf, h => by simp only [fits] at hf; cases hf
  | .ptr .., .rq ys j, u, hf, h => by simp only [fits] at hf; cases hf
  | .sub .., .rq ys j, u, hf, h => by simp only [fits] at hf; cases hf
  | .subp .., .rq ys j, u, hf, h => by simp only [fits] at hf; cases hf
  | .tup .., .rq ys j, u, hf, h => by simp only [fits] at hf; cases hf
  | .fn .., .rq ys j, u, hf, h => by simp only [fits] at hf; cases hf
  | .bad, .rq ys j, u, hf, h => by simp only [fits] at hf; cases hf
theorem fitsL_ok {m : Mem} : ∀ (xs ys : List AV) (us : List Value), fitsL xs ys → Oks m xs us → Oks m ys us
  | [], [], us, _, h => h
  | x :: xs, y :: ys, us, hf, h => by
    simp only [fitsL] at hf
    simp only [Oks] at h ⊢
    obtain ⟨u, vs, h1, h2, h3⟩ := h
    exact ⟨u, vs, h1, fits_ok x y u hf.1 h2, fitsL_ok xs ys vs hf.2 h3⟩
  | [], _ :: _, _, hf, _ => by simp only [fitsL] at hf
  | _ :: _, [], _, hf, _ => by simp only [fitsL] at hf
end

/-- A call that hands back a flat value. -/
theorem V_callF (hm : P.follows .mixedOrders = true) {q : Bool} {all r : List Oper} {d : Option Tmp} {ty : TypeId} {ps : String} {af : Array Edge} {g : Option (Nat × Bool)} {S : List Fr} {s : St} {fo : Operand} {args : List Operand} {ts : Array TypeId}
    {f : FuncId} {cap xs : List AV} {v : Value} (hc : s.G all g = true → Gives P f xs v) (hG : s.G all g = true → s.ev fo = (true, .fn f cap) ∧ evsP s args ∧ fitsL ((evs s args ++ cap).map (roV s.h 4)) xs) (hg : s.gOk all g) (hd : dstN s d) (hw : wfS S)
    (hr : V P K (.ops q all r :: S) (s.putO d (s.G all g) (.v v))) : V P K (.ops q all (⟨d, .call ⟨.value fo, ⟨args⟩, ts⟩, ty, ps, af, g⟩ :: r) :: S) s := by
  rw [V_call]
  intro B Q hQ
  have hgd := V_good hm (S := .ops q all r :: S) (by simpa only [wfT] using hw) hr B Q hQ
  have step : ∀ m a w, Sat B m s a w → s.G all g = true → ∃ us : List Value, (∀ w', (execOp a.eval (⟨d, .call ⟨.value fo, ⟨args⟩, ts⟩, ty, ps, af, g⟩ : Oper)).run P w' = .ok (.enter f us.toArray) w') ∧
      ∀ w', RowKit.Below w.heap.size w w' → Calls P f us.toArray w' (fun e w'' => e = .returned v ∧ RowKit.Below w.heap.size w w'') := by
    intro m a w hs hGt
    have h4 := hc hGt
    obtain ⟨h1, h2, h3⟩ := hG hGt
    obtain ⟨us, k1, k2⟩ := call_enter (P := P) (o := ⟨d, .call ⟨.value fo, ⟨args⟩, ts⟩, ty, ps, af, g⟩) hs rfl h1 h2 h4.enter
    refine ⟨us, k2, fun w' hb => ?_⟩
    have hs' := hs.below hb
    have hx : Oks (m.at w') (evs s args ++ cap) us := Oks.mono (m := m) (m' := m.at w') ⟨rfl, fun _ _ h => h, fun l b hl => by
      show m.z b ≤ bsz w' b
      rw [hs.core.z, bsz_below hb (hs.core.lt l b hl)]; exact Nat.le_refl _⟩ _ _ k1
    have hx' := hx.map (fun x u => roV_ok hs'.core 4 x u)
    have hx' := fitsL_ok _ _ _ h3 hx'
    exact (h4.calls _ w' us (totR_ok w') hx').mono fun e w'' ⟨g1, g2⟩ => ⟨g1, hb.trans (g2.mono hb.size)⟩
  cases q with
  | true =>
    simp only [GoodB] at hgd ⊢
    intro m a w hs
    have hwt := wanted_eq hs all.toArray (⟨d, .call ⟨.value fo, ⟨args⟩, ts⟩, ty, ps, af, g⟩ : Oper) (by simpa using hg)
    rw [List.toList_toArray] at hwt
    unfold wpQuiet
    split
    · rename_i hwn
      rw [hwt] at hwn
      obtain ⟨us, g1, g2⟩ := step m a w hs hwn
      refine ⟨v, fun w' hb => ?_, hgd m _ w (putO_sat hs hd (fun _ => ok_v.2 rfl) (fun hc => by rw [hwn] at hc; simp at hc))⟩
      unfold Oper.quietAt
      rw [g1 w']
      exact ⟨rfl, g2 w' hb⟩
    · rename_i hwn
      rw [hwt] at hwn
      have hwn : s.G all g = false := by simpa using hwn
      exact hgd m _ w (putO_sat hs hd (fun hc => by rw [hwn] at hc; simp at hc) (fun _ => rfl))
  | false =>
    rw [GoodB.plain (by simp)] at hgd ⊢
    intro m a w hs
    have hwt := wanted_eq hs all.toArray (⟨d, .call ⟨.value fo, ⟨args⟩, ts⟩, ty, ps, af, g⟩ : Oper) (by simpa using hg)
    rw [List.toList_toArray] at hwt
    simp only [den, Exit.then] at hgd ⊢
    unfold wpList
    split
    · rename_i hwn
      rw [hwt] at hwn
      obtain ⟨us, g1, g2⟩ := step m a w hs hwn
      refine .inl ?_
      unfold Oper.wp
      rw [g1 w, Oper.upon_enter]
      refine (g2 w (RowKit.Below.refl _ _)).mono fun e w'' ⟨he, hb⟩ => ?_
      subst he
      exact hgd _ _ _ (putO_sat (hs.below hb) hd (fun _ => ok_v.2 rfl) (fun hc => by rw [hwn] at hc; simp at hc))
    · rename_i hwn
      rw [hwt] at hwn
      have hwn : s.G all g = false := by simpa using hwn
      exact hgd m _ w (putO_sat hs hd (fun hc => by rw [hwn] at hc; simp at hc) (fun _ => rfl))

/-! ### New chunks that a callee hands back: their keys are moved up -/
mutual
def AV.sh (n : Nat) : AV → AV
  | .sl k E lo c => .sl (n + k) E lo c
  | .ptr k E i j => .ptr (n + k) E i j
  | .sub k i j E lo c => .sub (n + k) i j E lo c
  | .subp k i j E l q => .subp (n + k) i j E l q
  | .agg xs => .agg (shL n xs)
  | .tup xs => .tup (shL n xs)
  | .fn f xs => .fn f (shL n xs)
  | .rq xs j => .rq (shL n xs) j
  | .v x => .v x
  | .rd E rows => .rd E rows
  | .rp row j => .rp row j
  | .bad => .bad
def shL (n : Nat) : List AV → List AV
  | [] => []
  | x :: xs => AV.sh n x :: shL n xs
end
def Chunk.sh (n : Nat) : Chunk → Chunk
  | .box e cells => .box e (shL n cells)
  | .row e E rows => .row e E rows
  | .pin k' ob zz => .pin (n + k') ob zz
  | .fact xs us => .fact (shL n xs) us
def shH (n : Nat) : Heap → Heap → Heap
  | [], r => r
  | (k, c) :: h, r => (n + k, c.sh n) :: shH n h r
def Lab.up (n : Nat) : Lab → Lab
  | .root k => .root (n + k)
  | .sub k i j => .sub (n + k) i j
def Lab.down (n : Nat) : Lab → Lab
  | .root k => .root (k - n)
  | .sub k i j => .sub (k - n) i j
mutual
/-- Nothing in it is read-only. -/
def AV.noR : AV → Prop
  | .agg xs => noRL xs
  | .tup xs => noRL xs
  | .fn _ xs => noRL xs
  | .rq _ _ => False
  | .rd _ _ => False
  | .rp _ _ => False
  | .sl _ _ _ _ => True
  | .ptr _ _ _ _ => True
  | .sub _ _ _ _ _ _ => True
  | .subp _ _ _ _ _ _ => True
  | .v _ => True
  | .bad => True
def noRL : List AV → Prop
  | [] => True
  | x :: xs => AV.noR x ∧ noRL xs
end
def noRH : Heap → Prop
  | [] => True
  | (_, .box _ cells) :: h => noRL cells ∧ noRH h
  | (_, .row ..) :: h => noRH h
  | (_, .pin ..) :: h => noRH h
  | (_, .fact xs _) :: h => noRL xs ∧ noRH h
def keysLt (n : Nat) : Heap → Prop
  | [] => True
  | (k, _) :: h => k < n ∧ keysLt n h
theorem keysLt_look {n : Nat} : ∀ {h : Heap} {k : Nat} {c : Chunk}, keysLt n h → look? h k = some c → k < n
  | [], _, _, _, h => by simp [look?] at h
  | (k', c') :: h, k, c, hl, hk => by
    simp only [keysLt] at hl
    simp only [look?] at hk
    split at hk
    · rename_i he; subst he; exact hl.1
    · exact keysLt_look hl.2 hk

section
variable {m m' : Mem} {n : Nat} (hb : ∀ l, m'.b (l.up n) = m.b l) (hz : ∀ l b, m.b l = some b → m.z b ≤ m'.z b)
include hb hz
mutual
theorem sh_ok : ∀ (x : AV) (u : Value), (m'.r = m.r ∨ AV.noR x) → Ok m x u → Ok m' (x.sh n) u
  | .sl k E lo c, u, _, h => by simp only [AV.sh, Ok] at h ⊢; exact h.mono (fun b h => by have := hb (.root k); rw [h] at this; exact this) (hz _)
  | .ptr k E i j, u, _, h => by simp only [AV.sh, Ok] at h ⊢; obtain ⟨b, h1, h2⟩ := h; exact ⟨b, by have := hb (.root k); rw [h1] at this; exact this, h2⟩
  | .sub k i j E lo c, u, _, h => by simp only [AV.sh, Ok] at h ⊢; exact h.mono (fun b h => by have := hb (.sub k i j); rw [h] at this; exact this) (hz _)
  | .subp k i j E l q, u, _, h => by simp only [AV.sh, Ok] at h ⊢; obtain ⟨b, h1, h2⟩ := h; exact ⟨b, by have := hb (.sub k i j); rw [h1] at this; exact this, h2⟩
  | .agg xs, u, hr, h => by simp only [AV.sh, Ok, AV.noR] at h hr ⊢; obtain ⟨us, h1, h2⟩ := h; exact ⟨us, h1, shs_ok xs us hr h2⟩
  | .tup xs, u, hr, h => by simp only [AV.sh, Ok, AV.noR] at h hr ⊢; obtain ⟨us, h1, h2⟩ := h; exact ⟨us, h1, shs_ok xs us hr h2⟩
  | .fn f xs, u, hr, h => by simp only [AV.sh, Ok, AV.noR] at h hr ⊢; obtain ⟨us, h1, h2⟩ := h; exact ⟨us, h1, shs_ok xs us hr h2⟩
  | .rq xs j, u, hr, h => by
    simp only [AV.noR, or_false] at hr
    simp only [AV.sh, Ok] at h ⊢; obtain ⟨b, o, us, h1, h2, h3⟩ := h; exact ⟨b, o, us, h1, by rw [hr]; exact h2, shs_ok xs us (.inl hr) h3⟩
  | .rd E rows, u, hr, h => by
    simp only [AV.noR, or_false] at hr
    simp only [AV.sh, Ok] at h ⊢; rw [hr]; exact h
  | .rp row j, u, hr, h => by
    simp only [AV.noR, or_false] at hr
    simp only [AV.sh, Ok] at h ⊢; rw [hr]; exact h
  | .v x, u, _, h => by simp only [AV.sh, Ok] at h ⊢; exact h
  | .bad, u, _, _ => by simp only [AV.sh]; exact ok_bad
theorem shs_ok : ∀ (xs : List AV) (us : List Value), (m'.r = m.r ∨ noRL xs) → Oks m xs us → Oks m' (shL n xs) us
  | [], us, _, h => by simp only [shL, Oks] at h ⊢; exact h
  | x :: xs, us, hr, h => by
    simp only [noRL] at hr
    simp only [shL, Oks] at h ⊢
    obtain ⟨u, vs, h1, h2, h3⟩ := h
    exact ⟨u, vs, h1, sh_ok x u (hr.imp id (·.1)) h2, shs_ok xs vs (hr.imp id (·.2)) h3⟩
end

theorem sh_chunk {w : World} {k : Nat} {c : Chunk} (hr : m'.r = m.r ∨ noRH [(k, c)]) (h : ChunkOk m w k c) : ChunkOk m' w (n + k) (c.sh n) := by
  have hroot : m'.b (.root (n + k)) = m.b (.root k) := hb (.root k)
  have hsub : ∀ i j, m'.b (.sub (n + k) i j) = m.b (.sub k i j) := fun i j => hb (.sub k i j)
  cases c with
  | fact xs us => exact shs_ok hb hz _ _ (hr.imp id (·.1)) h
  | pin k' ob zz => exact fun b hb' => ⟨by have := hb (.root k'); rw [(h b hb').1] at this; exact this, Nat.le_trans (h b hb').2 (hz _ _ (h b hb').1)⟩
  | box e cells =>
    obtain ⟨b, vs, fr, h1, h2, h3, h4⟩ := h
    exact ⟨b, vs, fr, by rw [hroot]; exact h1, h2, h3, shs_ok hb hz _ _ (hr.imp id (·.1)) h4⟩
  | row e E rows =>
    rcases h with ⟨h1, h2⟩ | ⟨b, vs, fr, h1, h2, h3, h4, h5⟩
    · exact .inl ⟨by rw [hroot]; exact h1, h2⟩
    · refine .inr ⟨b, vs, fr, by rw [hroot]; exact h1, h2, h3, h4, fun i row hi => ⟨(h5 i row hi).1, fun j c hj => ?_⟩⟩
      obtain ⟨y, hy, hc⟩ := (h5 i row hi).2 j c hj
      refine ⟨y, hy, ?_⟩
      cases c with
      | v x => exact hc
      | s e' E' rows' =>
        obtain ⟨g1, g2⟩ := hc
        refine ⟨g1.mono (fun b hb' => by rw [hsub]; exact hb') (hz _), ?_⟩
        rcases g2 with ⟨n1, n2⟩ | ⟨b', vs', fr', n1, n2⟩
        · exact .inl ⟨by rw [hsub]; exact n1, n2⟩
        · exact .inr ⟨b', vs', fr', by rw [hsub]; exact n1, n2⟩
end

theorem shH_look (n : Nat) : ∀ (h r : Heap) (k : Nat), look? (shH n h r) k = if n ≤ k then (match look? h (k - n) with | some c => some (c.sh n) | none => look? r k) else look? r k
  | [], r, k => by simp [shH, look?]
  | (k', c') :: h, r, k => by
    simp only [shH, look?]
    by_cases hk : n + k' = k
    · subst hk
      simp
    · rw [if_neg hk, shH_look n h r k]
      split
      · rw [if_neg (by omega)]
      · rfl
theorem noRH_look : ∀ {h : Heap} {k : Nat} {c : Chunk}, noRH h → look? h k = some c → noRH [(k, c)]
  | [], _, _, _, h => by simp [look?] at h
  | (k', .box e cells) :: h, k, c, hl, hk => by
    simp only [noRH] at hl
    simp only [look?] at hk
    split at hk
    · simp only [Option.some.injEq] at hk; subst hk; exact ⟨hl.1, trivial⟩
    · exact noRH_look hl.2 hk
  | (k', .row ..) :: h, k, c, hl, hk => by
    simp only [noRH] at hl
    simp only [look?] at hk
    split at hk
    · simp only [Option.some.injEq] at hk; subst hk; trivial
    · exact noRH_look hl hk
  | (k', .fact xs us) :: h, k, c, hl, hk => by
    simp only [noRH] at hl
    simp only [look?] at hk
    split at hk
    · simp only [Option.some.injEq] at hk; subst hk; exact ⟨hl.1, trivial⟩
    · exact noRH_look hl.2 hk
  | (k', .pin ..) :: h, k, c, hl, hk => by
    simp only [noRH] at hl
    simp only [look?] at hk
    split at hk
    · simp only [Option.some.injEq] at hk; subst hk; trivial
    · exact noRH_look hl hk

/-- What a callee has made is taken over. -/
theorem Sat.take {B : Base} {m m' : Mem} {s : St} {a : Act} {w w' : World} (hs : Sat B m s a w) (hb : RowKit.Below w.heap.size w w') {h : Heap} {n : Nat} (hc : Core m' w' h n) (hnew : ∀ l b, m'.b l = some b → w.heap.size ≤ b)
    (hr : m.r = m'.r ∨ noRH h) (hk : keysLt s.nk s.h) : ∃ m'', Sat B m'' ⟨s.t, shH s.nk h s.h, s.nk + n, s.N⟩ a w' ∧ m''.r = m.r ∧ ∀ (x : AV) u, (m.r = m'.r ∨ AV.noR x) → Ok m' x u → Ok m'' (x.sh s.nk) u := by
  let m'' : Mem := ⟨m.r, fun l => if s.nk ≤ l.key then m'.b (l.down s.nk) else m.b l, bsz w'⟩
  have hud : ∀ l : Lab, s.nk ≤ l.key → (l.down s.nk).up s.nk = l := fun l hl => by
    cases l <;> simp only [Lab.key] at hl <;> simp only [Lab.down, Lab.up] <;> congr 1 <;> omega
  have hup : ∀ l, m''.b (l.up s.nk) = m'.b l := fun l => by
    have h1 : s.nk ≤ (l.up s.nk).key := by cases l <;> simp [Lab.up, Lab.key]
    have h2 : (l.up s.nk).down s.nk = l := by cases l <;> simp [Lab.up, Lab.down]
    simp only [m'', if_pos h1, h2]
  have hnone : ∀ l : Lab, s.nk ≤ l.key → m.b l = none := fun l hl => by
    cases l with
    | root k => exact (hs.core.new k hl).1
    | sub k i j => exact (hs.core.new k hl).2 i j
  have hle : m.le m'' := ⟨rfl, fun l b hl => by
    by_cases hk : s.nk ≤ l.key
    · rw [hnone l hk] at hl; simp at hl
    · simp only [m'', if_neg hk]; exact hl, fun l b hl => by
      show m.z b ≤ bsz w' b
      rw [hs.core.z, bsz_below hb (hs.core.lt l b hl)]; exact Nat.le_refl _⟩
  have hz : ∀ l b, m'.b l = some b → m'.z b ≤ m''.z b := fun l b _ => by rw [hc.z]; exact Nat.le_refl _
  have hcase : ∀ l b, m''.b l = some b → (s.nk ≤ l.key ∧ m'.b (l.down s.nk) = some b) ∨ (¬ s.nk ≤ l.key ∧ m.b l = some b) := fun l b hl => by
    simp only [m''] at hl
    split at hl
    · exact .inl ⟨by assumption, hl⟩
    · exact .inr ⟨by assumption, hl⟩
  refine ⟨m'', ⟨hs.defers, hs.size, hs.r, ⟨?_, ?_, fun _ => rfl, ?_, ?_, ?_⟩, ?_, hs.frm.below hb, hs.tmps.mono hle⟩, rfl, fun x u hr' hx => sh_ok hup hz x u (hr'.imp (fun h => h) id) hx⟩
  · intro l l' b h1 h2
    rcases hcase l b h1 with ⟨k1, g1⟩ | ⟨k1, g1⟩ <;> rcases hcase l' b h2 with ⟨k2, g2⟩ | ⟨k2, g2⟩
    · have := hc.inj _ _ b g1 g2
      rw [← hud l k1, ← hud l' k2, this]
    · have := hnew _ _ g1; have := hs.core.lt _ _ g2; omega
    · have := hnew _ _ g2; have := hs.core.lt _ _ g1; omega
    · exact hs.core.inj _ _ b g1 g2
  · intro l b h1
    rcases hcase l b h1 with ⟨_, g1⟩ | ⟨_, g1⟩
    · exact hc.lt _ _ g1
    · exact Nat.lt_of_lt_of_le (hs.core.lt _ _ g1) hb.size
  · intro b o hro
    obtain ⟨h1, h2⟩ := hs.core.ro b o hro
    have hlt := (Array.getElem?_eq_some_iff.1 h1).1
    refine ⟨by rw [hb.block b hlt]; exact h1, fun l hl => ?_⟩
    rcases hcase l b hl with ⟨_, g1⟩ | ⟨_, g1⟩
    · have := hnew _ _ g1; omega
    · exact h2 l g1
  · intro k hk
    have hk' : s.nk + n ≤ k := hk
    have hk1 : s.nk ≤ k := by omega
    have := hc.new (k - s.nk) (by omega)
    refine ⟨?_, fun i j => ?_⟩
    · simp only [m'', Lab.key, hk1, if_true, Lab.down]; exact this.1
    · simp only [m'', Lab.key, hk1, if_true, Lab.down]; exact this.2 i j
  · intro k c hk'
    rw [shH_look] at hk'
    have keep : look? s.h k = some c → ChunkOk m'' w' k c := fun hk' => by
      have hlt := keysLt_look hk hk'
      have hn : ¬ s.nk ≤ k := by omega
      exact (hs.core.chunk k c hk').keep hle (fun i j => by simp only [m'', Lab.key, hn, if_false]) (by simp only [m'', Lab.key, hn, if_false]) (fun l b hl _ => hb.block b (hs.core.lt l b hl))
    split at hk'
    · rename_i hle'
      cases hl : look? h (k - s.nk) with
      | none => rw [hl] at hk'; exact keep hk'
      | some c0 =>
        rw [hl] at hk'
        simp only [Option.some.injEq] at hk'
        subst hk'
        have := sh_chunk (n := s.nk) hup hz (hr.imp (fun h => h) (fun hno => noRH_look hno hl)) (hc.chunk _ _ hl)
        rw [show s.nk + (k - s.nk) = k by omega] at this
        exact this
    · exact keep hk'
  · intro l b hl
    rcases hcase l b hl with ⟨_, g1⟩ | ⟨_, g1⟩
    · exact .inr (Nat.le_trans hs.frm.size (hnew _ _ g1))
    · exact hs.own l b g1

/-- A call that hands back new chunks. -/
theorem V_callR (hm : P.follows .mixedOrders = true) {all r : List Oper} {d : Option Tmp} {ty : TypeId} {ps : String} {af : Array Edge} {g : Option (Nat × Bool)} {S : List Fr} {s : St} {fo : Operand} {args : List Operand} {ts : Array TypeId}
    {f : FuncId} {cap xs : List AV} {av : AV} {h : Heap} {n : Nat} (hc : Reads P f xs av h n) (hG : s.G all g = true ∧ s.ev fo = (true, .fn f cap) ∧ evsP s args ∧ fitsL ((evs s args ++ cap).map (roV s.h 4)) xs ∧ av.noR ∧ noRH h ∧ keysLt s.nk s.h) (hg : s.gOk all g) (hd : dstN s d) (hw : wfS S)
    (hr : V P K (.ops false all r :: S) (St.putO ⟨s.t, shH s.nk h s.h, s.nk + n, s.N⟩ d true (av.sh s.nk))) : V P K (.ops false all (⟨d, .call ⟨.value fo, ⟨args⟩, ts⟩, ty, ps, af, g⟩ :: r) :: S) s := by
  rw [V_call]
  have hgd := V_good hm (S := .ops false all r :: S) (by simpa only [wfT] using hw) hr
  refine good_of_den (by simp) fun B Q hQ m a w hs => ?_
  obtain ⟨hGt, h1, h2, h3, hno, hnoh, hkl⟩ := hG
  obtain ⟨us, k1, k2⟩ := call_enter (P := P) (o := ⟨d, .call ⟨.value fo, ⟨args⟩, ts⟩, ty, ps, af, g⟩) hs rfl h1 h2 hc.enter
  have hwt := wanted_eq hs all.toArray (⟨d, .call ⟨.value fo, ⟨args⟩, ts⟩, ty, ps, af, g⟩ : Oper) (by simpa using hg)
  rw [List.toList_toArray, hGt] at hwt
  simp only [den, Exit.then]
  unfold wpList
  rw [if_pos hwt]
  refine .inl ?_
  unfold Oper.wp
  rw [k2 w, Oper.upon_enter]
  have hx' := k1.map (fun x u => roV_ok hs.core 4 x u)
  have hx' := fitsL_ok _ _ _ h3 hx'
  refine (hc.calls _ w us (totR_ok w) hx').mono fun e w'' ⟨u, m', he, hb, hok, hcore, hmr, hnew⟩ => ?_
  subst he
  obtain ⟨m'', hs'', _, htr⟩ := hs.take hb hcore hnew (.inr hnoh) hkl
  have hd' : dstN ⟨s.t, shH s.nk h s.h, s.nk + n, s.N⟩ d := by cases d <;> exact hd
  have hput := putO_sat (c := true) (x := av.sh s.nk) (u := u) hs'' hd' (fun _ => htr _ _ (.inr hno) hok) (fun hc => by simp at hc)
  have := hgd.use hQ (by simp) hput
  simp only [den, Exit.then] at this
  exact this

theorem wkT_nil (t n) : wkT t n [] = True := by first | rfl | simp only [wkT, wkH, AV.lt, ltL, Chunk.lt, AV.sh, shL, Chunk.sh, shH, AV.noR, noRL, noRH, keysLt]
theorem wkT_cons (t n d c x r) : wkT t n ((d, c, x) :: r) = (AV.lt n x ∧ look (true, .bad) t d = (c, x) ∧ wkT t n r) := by first | rfl | simp only [wkT, wkH, AV.lt, ltL, Chunk.lt, AV.sh, shL, Chunk.sh, shH, AV.noR, noRL, noRH, keysLt]
theorem wkH_nil (h n) : wkH h n [] = True := by first | rfl | simp only [wkT, wkH, AV.lt, ltL, Chunk.lt, AV.sh, shL, Chunk.sh, shH, AV.noR, noRL, noRH, keysLt]
theorem wkH_cons (h n k c r) : wkH h n ((k, c) :: r) = (k < n ∧ Chunk.lt n c ∧ look? h k = some c ∧ wkH h n r) := by first | rfl | simp only [wkT, wkH, AV.lt, ltL, Chunk.lt, AV.sh, shL, Chunk.sh, shH, AV.noR, noRL, noRH, keysLt]
theorem lt_sl (n k E lo c) : AV.lt n (.sl k E lo c) = (k < n) := by first | rfl | simp only [wkT, wkH, AV.lt, ltL, Chunk.lt, AV.sh, shL, Chunk.sh, shH, AV.noR, noRL, noRH, keysLt]
theorem lt_ptr (n k E i j) : AV.lt n (.ptr k E i j) = (k < n) := by first | rfl | simp only [wkT, wkH, AV.lt, ltL, Chunk.lt, AV.sh, shL, Chunk.sh, shH, AV.noR, noRL, noRH, keysLt]
theorem lt_sub (n k i j E lo c) : AV.lt n (.sub k i j E lo c) = (k < n) := by first | rfl | simp only [wkT, wkH, AV.lt, ltL, Chunk.lt, AV.sh, shL, Chunk.sh, shH, AV.noR, noRL, noRH, keysLt]
theorem lt_subp (n k i j E l q) : AV.lt n (.subp k i j E l q) = (k < n) := by first | rfl | simp only [wkT, wkH, AV.lt, ltL, Chunk.lt, AV.sh, shL, Chunk.sh, shH, AV.noR, noRL, noRH, keysLt]
theorem lt_agg (n xs) : AV.lt n (.agg xs) = ltL n xs := by first | rfl | simp only [wkT, wkH, AV.lt, ltL, Chunk.lt, AV.sh, shL, Chunk.sh, shH, AV.noR, noRL, noRH, keysLt]
theorem lt_tup (n xs) : AV.lt n (.tup xs) = ltL n xs := by first | rfl | simp only [wkT, wkH, AV.lt, ltL, Chunk.lt, AV.sh, shL, Chunk.sh, shH, AV.noR, noRL, noRH, keysLt]
theorem lt_fn (n f xs) : AV.lt n (.fn f xs) = ltL n xs := by first | rfl | simp only [wkT, wkH, AV.lt, ltL, Chunk.lt, AV.sh, shL, Chunk.sh, shH, AV.noR, noRL, noRH, keysLt]
theorem lt_rq (n xs j) : AV.lt n (.rq xs j) = ltL n xs := by first | rfl | simp only [wkT, wkH, AV.lt, ltL, Chunk.lt, AV.sh, shL, Chunk.sh, shH, AV.noR, noRL, noRH, keysLt]
theorem lt_v (n x) : AV.lt n (.v x) = True := by first | rfl | simp only [wkT, wkH, AV.lt, ltL, Chunk.lt, AV.sh, shL, Chunk.sh, shH, AV.noR, noRL, noRH, keysLt]
theorem lt_rd (n E rows) : AV.lt n (.rd E rows) = True := by first | rfl | simp only [wkT, wkH, AV.lt, ltL, Chunk.lt, AV.sh, shL, Chunk.sh, shH, AV.noR, noRL, noRH, keysLt]
theorem lt_rp (n row j) : AV.lt n (.rp row j) = True := by first | rfl | simp only [wkT, wkH, AV.lt, ltL, Chunk.lt, AV.sh, shL, Chunk.sh, shH, AV.noR, noRL, noRH, keysLt]
theorem lt_bad (n) : AV.lt n .bad = True := by first | rfl | simp only [wkT, wkH, AV.lt, ltL, Chunk.lt, AV.sh, shL, Chunk.sh, shH, AV.noR, noRL, noRH, keysLt]
theorem ltL_nil (n) : ltL n [] = True := by first | rfl | simp only [wkT, wkH, AV.lt, ltL, Chunk.lt, AV.sh, shL, Chunk.sh, shH, AV.noR, noRL, noRH, keysLt]
theorem ltL_cons (n x xs) : ltL n (x :: xs) = (AV.lt n x ∧ ltL n xs) := by first | rfl | simp only [wkT, wkH, AV.lt, ltL, Chunk.lt, AV.sh, shL, Chunk.sh, shH, AV.noR, noRL, noRH, keysLt]
theorem clt_box (n e cells) : Chunk.lt n (.box e cells) = ltL n cells := by first | rfl | simp only [wkT, wkH, AV.lt, ltL, Chunk.lt, AV.sh, shL, Chunk.sh, shH, AV.noR, noRL, noRH, keysLt]
theorem clt_row (n e E rows) : Chunk.lt n (.row e E rows) = True := by first | rfl | simp only [wkT, wkH, AV.lt, ltL, Chunk.lt, AV.sh, shL, Chunk.sh, shH, AV.noR, noRL, noRH, keysLt]
theorem sh_sl (n k E lo c) : AV.sh n (.sl k E lo c) = .sl (n + k) E lo c := by first | rfl | simp only [wkT, wkH, AV.lt, ltL, Chunk.lt, AV.sh, shL, Chunk.sh, shH, AV.noR, noRL, noRH, keysLt]
theorem sh_ptr (n k E i j) : AV.sh n (.ptr k E i j) = .ptr (n + k) E i j := by first | rfl | simp only [wkT, wkH, AV.lt, ltL, Chunk.lt, AV.sh, shL, Chunk.sh, shH, AV.noR, noRL, noRH, keysLt]
theorem sh_agg (n xs) : AV.sh n (.agg xs) = .agg (shL n xs) := by first | rfl | simp only [wkT, wkH, AV.lt, ltL, Chunk.lt, AV.sh, shL, Chunk.sh, shH, AV.noR, noRL, noRH, keysLt]
theorem sh_tup (n xs) : AV.sh n (.tup xs) = .tup (shL n xs) := by first | rfl | simp only [wkT, wkH, AV.lt, ltL, Chunk.lt, AV.sh, shL, Chunk.sh, shH, AV.noR, noRL, noRH, keysLt]
theorem sh_fn (n f xs) : AV.sh n (.fn f xs) = .fn f (shL n xs) := by first | rfl | simp only [wkT, wkH, AV.lt, ltL, Chunk.lt, AV.sh, shL, Chunk.sh, shH, AV.noR, noRL, noRH, keysLt]
theorem sh_v (n x) : AV.sh n (.v x) = .v x := by first | rfl | simp only [wkT, wkH, AV.lt, ltL, Chunk.lt, AV.sh, shL, Chunk.sh, shH, AV.noR, noRL, noRH, keysLt]
theorem sh_rd (n E rows) : AV.sh n (.rd E rows) = .rd E rows := by first | rfl | simp only [wkT, wkH, AV.lt, ltL, Chunk.lt, AV.sh, shL, Chunk.sh, shH, AV.noR, noRL, noRH, keysLt]
theorem shL_nil (n) : shL n [] = [] := by first | rfl | simp only [wkT, wkH, AV.lt, ltL, Chunk.lt, AV.sh, shL, Chunk.sh, shH, AV.noR, noRL, noRH, keysLt]
theorem shL_cons (n x xs) : shL n (x :: xs) = AV.sh n x :: shL n xs := by first | rfl | simp only [wkT, wkH, AV.lt, ltL, Chunk.lt, AV.sh, shL, Chunk.sh, shH, AV.noR, noRL, noRH, keysLt]
theorem csh_box (n e cells) : Chunk.sh n (.box e cells) = .box e (shL n cells) := by first | rfl | simp only [wkT, wkH, AV.lt, ltL, Chunk.lt, AV.sh, shL, Chunk.sh, shH, AV.noR, noRL, noRH, keysLt]
theorem csh_row (n e E rows) : Chunk.sh n (.row e E rows) = .row e E rows := by first | rfl | simp only [wkT, wkH, AV.lt, ltL, Chunk.lt, AV.sh, shL, Chunk.sh, shH, AV.noR, noRL, noRH, keysLt]
theorem shH_nil (n r) : shH n [] r = r := by first | rfl | simp only [wkT, wkH, AV.lt, ltL, Chunk.lt, AV.sh, shL, Chunk.sh, shH, AV.noR, noRL, noRH, keysLt]
theorem shH_cons (n k c h r) : shH n ((k, c) :: h) r = (n + k, c.sh n) :: shH n h r := by first | rfl | simp only [wkT, wkH, AV.lt, ltL, Chunk.lt, AV.sh, shL, Chunk.sh, shH, AV.noR, noRL, noRH, keysLt]
theorem noR_agg (xs) : AV.noR (.agg xs) = noRL xs := by first | rfl | simp only [wkT, wkH, AV.lt, ltL, Chunk.lt, AV.sh, shL, Chunk.sh, shH, AV.noR, noRL, noRH, keysLt]
theorem noR_tup (xs) : AV.noR (.tup xs) = noRL xs := by first | rfl | simp only [wkT, wkH, AV.lt, ltL, Chunk.lt, AV.sh, shL, Chunk.sh, shH, AV.noR, noRL, noRH, keysLt]
theorem noR_fn (f xs) : AV.noR (.fn f xs) = noRL xs := by first | rfl | simp only [wkT, wkH, AV.lt, ltL, Chunk.lt, AV.sh, shL, Chunk.sh, shH, AV.noR, noRL, noRH, keysLt]
theorem noR_sl (k E lo n) : AV.noR (.sl k E lo n) = True := by first | rfl | simp only [wkT, wkH, AV.lt, ltL, Chunk.lt, AV.sh, shL, Chunk.sh, shH, AV.noR, noRL, noRH, keysLt]
theorem noR_ptr (k E lo n) : AV.noR (.ptr k E lo n) = True := by first | rfl | simp only [wkT, wkH, AV.lt, ltL, Chunk.lt, AV.sh, shL, Chunk.sh, shH, AV.noR, noRL, noRH, keysLt]
theorem noR_v (x) : AV.noR (.v x) = True := by first | rfl | simp only [wkT, wkH, AV.lt, ltL, Chunk.lt, AV.sh, shL, Chunk.sh, shH, AV.noR, noRL, noRH, keysLt]
theorem noR_bad : AV.noR .bad = True := by first | rfl | simp only [wkT, wkH, AV.lt, ltL, Chunk.lt, AV.sh, shL, Chunk.sh, shH, AV.noR, noRL, noRH, keysLt]
theorem noRL_nil : noRL [] = True := by first | rfl | simp only [wkT, wkH, AV.lt, ltL, Chunk.lt, AV.sh, shL, Chunk.sh, shH, AV.noR, noRL, noRH, keysLt]
theorem noRL_cons (x xs) : noRL (x :: xs) = (AV.noR x ∧ noRL xs) := by first | rfl | simp only [wkT, wkH, AV.lt, ltL, Chunk.lt, AV.sh, shL, Chunk.sh, shH, AV.noR, noRL, noRH, keysLt]
theorem noRH_nil : noRH [] = True := by first | rfl | simp only [wkT, wkH, AV.lt, ltL, Chunk.lt, AV.sh, shL, Chunk.sh, shH, AV.noR, noRL, noRH, keysLt]
theorem noRH_box (k e cells h) : noRH ((k, .box e cells) :: h) = (noRL cells ∧ noRH h) := by first | rfl | simp only [wkT, wkH, AV.lt, ltL, Chunk.lt, AV.sh, shL, Chunk.sh, shH, AV.noR, noRL, noRH, keysLt]
theorem noRH_row (k e E rows h) : noRH ((k, .row e E rows) :: h) = noRH h := by first | rfl | simp only [wkT, wkH, AV.lt, ltL, Chunk.lt, AV.sh, shL, Chunk.sh, shH, AV.noR, noRL, noRH, keysLt]
theorem keysLt_nil (n) : keysLt n [] = True := by first | rfl | simp only [wkT, wkH, AV.lt, ltL, Chunk.lt, AV.sh, shL, Chunk.sh, shH, AV.noR, noRL, noRH, keysLt]
theorem keysLt_cons (n k c h) : keysLt n ((k, c) :: h) = (k < n ∧ keysLt n h) := by first | rfl | simp only [wkT, wkH, AV.lt, ltL, Chunk.lt, AV.sh, shL, Chunk.sh, shH, AV.noR, noRL, noRH, keysLt]
theorem fits_rd (x E rows) : fits x (.rd E rows) = (x = .rd E rows ∨ (x = .v (.slice none 0 0) ∧ rows = [])) := by first | rfl | simp [fits, fitsL]
theorem fits_agg (xs ys) : fits (.agg xs) (.agg ys) = fitsL xs ys := by first | rfl | simp [fits, fitsL]
theorem fits_rq (xs ys i j) : fits (.rq xs i) (.rq ys j) = (i = j ∧ fitsL xs ys) := by first | rfl | simp [fits, fitsL]
theorem fits_bad (x) : fits x .bad = True := by first | rfl | simp [fits, fitsL]
theorem fits_v (x y) : fits (.v x) (.v y) = (x = y) := by first | rfl | simp [fits, fitsL]
theorem fits_rp (x i y j) : fits (.rp x i) (.rp y j) = (x = y ∧ i = j) := by first | rfl | simp [fits, fitsL]
theorem fits_fn (f x g y) : fits (.fn f x) (.fn g y) = (f = g ∧ x = y) := by first | rfl | simp [fits, fitsL]
theorem fitsL_nil : fitsL [] [] = True := by first | rfl | simp [fits, fitsL]
theorem fitsL_cons (x y xs ys) : fitsL (x :: xs) (y :: ys) = (fits x y ∧ fitsL xs ys) := by first | rfl | simp [fits, fitsL]
theorem weakI {t : List (Nat × Bool × AV)} {h : Heap} {nk N : Nat} {t' : List (Nat × Bool × AV)} {h' : Heap} {nk' : Nat} (H : wkT t nk' t' ∧ wkH h nk' h') : Weak ⟨t, h, nk, N⟩ ⟨t', h', nk', N⟩ := weak_mk t' h' nk' H.1 H.2

/-- The rules for contracts and calls. -/
def own := And.intro (And.intro (And.intro (And.intro (And.intro (And.intro @fits_rd @fits_agg) (And.intro @fits_rq (And.intro @fits_bad @fits_v))) (And.intro (And.intro @fits_rp @fits_fn) (And.intro @fitsL_nil (And.intro @fitsL_cons (fun P => @resP_nil P))))) (And.intro (And.intro (And.intro (fun P => @resP_cons P) (fun P => @resP_cell P)) (And.intro (fun P => @resE_tmp P) (And.intro (fun P => @resE_cell P) (fun P => @resAV_one P)))) (And.intro (And.intro (fun P => @resAV_two P) (fun P => @resAV_three P)) (And.intro (fun P => @resAV_nil P) (And.intro @argT_nil @argT_cons))))) (And.intro (And.intro (And.intro (And.intro @roV_sl @roV_sub) (And.intro @roV_ptr (And.intro @roV_agg @roV_fn))) (And.intro (And.intro @roV_rq @roV_v) (And.intro @roV_rd (And.intro @roV_rp @roV_bad)))) (And.intro (And.intro (And.intro @roSl_row @roSub_row) (And.intro @roRow_s (And.intro @roPtr_row @roPtr_box))) (And.intro (And.intro @wkT_nil (And.intro @wkT_cons @wkH_nil)) (And.intro @wkH_cons (And.intro @lt_sl @lt_ptr)))))) (And.intro (And.intro (And.intro (And.intro (And.intro @lt_sub @lt_subp) (And.intro @lt_agg (And.intro @lt_tup @lt_fn))) (And.intro (And.intro @lt_rq @lt_v) (And.intro @lt_rd (And.intro @lt_rp @lt_bad)))) (And.intro (And.intro (And.intro @ltL_nil @ltL_cons) (And.intro @clt_box (And.intro @clt_row @sh_sl))) (And.intro (And.intro @sh_ptr @sh_agg) (And.intro @sh_tup (And.intro @sh_fn @sh_v))))) (And.intro (And.intro (And.intro (And.intro @sh_rd @shL_nil) (And.intro @shL_cons (And.intro @csh_box @csh_row))) (And.intro (And.intro @shH_nil @shH_cons) (And.intro @noR_agg (And.intro @noR_tup @noR_fn)))) (And.intro (And.intro (And.intro @noR_sl @noR_ptr) (And.intro @noR_v (And.intro @noR_bad @noRL_nil))) (And.intro (And.intro @noRL_cons (And.intro @noRH_nil @noRH_box)) (And.intro @noRH_row (And.intro @keysLt_nil @keysLt_cons))))))

end Go.Eng

/- The engine, part R: plain facts about whole numbers and bytes. -/
set_option linter.unusedVariables false
set_option linter.unusedSimpArgs false
namespace Go.Eng
open Go

abbrev I (n : Int) : AV := .v (.int .i64 n)
abbrev Bo (b : Bool) : AV := .v (.bool b)
abbrev Sx (l : List UInt8) : AV := .v (str l)
/-- Within the range of an int. -/
abbrev In64 (n : Int) : Prop := -9223372036854775808 ≤ n ∧ n ≤ 9223372036854775807

theorem wrap_id {x : Int} (h1 : -9223372036854775808 ≤ x) (h2 : x ≤ 9223372036854775807) : IntKind.i64.wrap x = x := by
  unfold IntKind.wrap
  simp only [IntKind.bits, IntKind.signed]
  simp
  split <;> omega
theorem wrap_u8 {x : Int} (h1 : 0 ≤ x) (h2 : x ≤ 255) : IntKind.u8.wrap x = x := by
  unfold IntKind.wrap
  simp only [IntKind.bits, IntKind.signed]
  simp
  omega
theorem wrap_u8' (x : Int) : IntKind.u8.wrap x = x % 256 := by
  unfold IntKind.wrap
  simp only [IntKind.bits, IntKind.signed]
  simp
theorem quoV_pos {x y : Int} (h0 : 0 ≤ x) (h1 : 0 < y) (h2 : x ≤ 9223372036854775807) : quoV .i64 x y = x / y := by
  unfold quoV
  have e : x.tdiv y = x / y := Int.tdiv_eq_ediv_of_nonneg h0
  rw [e]
  have h3 : x / y ≤ x := Int.ediv_le_self _ h0
  have h4 : 0 ≤ x / y := Int.ediv_nonneg h0 (Int.le_of_lt h1)
  exact wrap_id (by omega) (by omega)
theorem remV_pos {x y : Int} (h0 : 0 ≤ x) : remV x y = x % y := Int.tmod_eq_emod_of_nonneg h0

/-! ### Lists -/
theorem getD_map' {α β : Type} (f : α → β) (l : List α) (i : Nat) (d : β) (d' : α) (h : i < l.length) : (l.map f).getD i d = f (l.getD i d') := by
  simp [List.getD_eq_getElem?_getD, h]
theorem getD_map {α β : Type} [Inhabited α] (f : α → β) (l : List α) (i : Nat) (d : β) (h : i < l.length) : (l.map f).getD i d = f (l.getD i default) := getD_map' f l i d default h
theorem getD_get {α : Type} (l : List α) (i : Nat) (d : α) (h : i < l.length) : l.getD i d = l[i] := by simp [List.getD_eq_getElem?_getD, h]
theorem drop_getD {α : Type} (d : α) {l : List α} {i : Nat} (h : i < l.length) : l.drop i = l.getD i d :: l.drop (i + 1) := by
  rw [getD_get l i _ h]; exact List.drop_eq_getElem_cons h
theorem any_drop {α : Type} (d : α) {p : α → Bool} {l : List α} {i : Nat} (h : i < l.length) : (l.drop i).any p = (p (l.getD i d) || (l.drop (i + 1)).any p) := by
  rw [drop_getD d h, List.any_cons]
theorem all_drop {α : Type} (d : α) {p : α → Bool} {l : List α} {i : Nat} (h : i < l.length) : (l.drop i).all p = (p (l.getD i d) && (l.drop (i + 1)).all p) := by
  rw [drop_getD d h, List.all_cons]
theorem drop_end {α : Type} (l : List α) (i : Nat) (h : ¬ i < l.length) : l.drop i = [] := List.drop_eq_nil_of_le (by omega)
def intRow (n : Int) : List Cell := [.v (.int .i64 n)]
def strRow (s : List UInt8) : List Cell := [.v (str s)]
def boolRow (b : Bool) : List Cell := [.v (.bool b)]
theorem intRow_e (n : Int) : intRow n = [.v (.int .i64 n)] := rfl
theorem strRow_e (s : List UInt8) : strRow s = [.v (str s)] := rfl
theorem boolRow_e (b : Bool) : boolRow b = [.v (.bool b)] := rfl

/-- The plain rules of every walk. -/
def stdl := And.intro (And.intro (And.intro (And.intro (And.intro (And.intro @str_mk @Bool.or_false) (And.intro @Bool.false_or (And.intro @Bool.or_true @Bool.true_or))) (And.intro (And.intro @List.append_eq.{0} @List.set_cons_zero.{0}) (And.intro @List.set_cons_succ.{0} (And.intro @List.length_set.{0} @not_false_eq_true)))) (And.intro (And.intro (And.intro @true_or @or_true) (And.intro @false_or (And.intro @or_false @false_and))) (And.intro (And.intro @and_false (And.intro @not_true_eq_false @AV.v.injEq)) (And.intro @Value.bool.injEq (And.intro @Value.int.injEq @Prod.mk.injEq.{0, 0}))))) (And.intro (And.intro (And.intro (And.intro @Option.some.injEq.{0} @Int.toNat_natCast) (And.intro @Int.toNat_zero (And.intro @Int.ofNat_lt @Int.ofNat_le))) (And.intro (And.intro @Int.natCast_nonneg @List.length_map.{0, 0}) (And.intro @getD_map (And.intro @intRow_e @strRow_e)))) (And.intro (And.intro (And.intro @boolRow_e @List.getD_cons_succ.{0}) (And.intro @List.getD_cons_zero.{0} (And.intro @List.length_cons.{0} @List.length_nil.{0}))) (And.intro (And.intro @Option.isSome_some.{0} (And.intro @Option.getD_some.{0} @Option.map_some.{0, 0})) (And.intro @Option.bind_some.{0, 0} (And.intro @Nat.zero_mul @Nat.zero_add)))))) (And.intro (And.intro (And.intro (And.intro (And.intro @true_and @and_true) (And.intro @and_self (And.intro @Bool.true_and @Bool.and_true))) (And.intro (And.intro @imp_self @false_implies) (And.intro @List.all_cons.{0} (And.intro @List.all_nil.{0} @List.map_cons.{0, 0})))) (And.intro (And.intro (And.intro @List.map_nil.{0, 0} @List.drop_zero.{0}) (And.intro @List.drop_succ_cons.{0} (And.intro @List.take_succ_cons.{0} @List.take_zero.{0}))) (And.intro (And.intro @decide_eq_true_eq (And.intro @decide_eq_false_iff_not @Bool.cond_true_left)) (And.intro @Bool.cond_false_right (And.intro @List.mem_cons.{0} @List.not_mem_nil.{0}))))) (And.intro (And.intro (And.intro (And.intro @beq_false @Bool.not_eq_true) (And.intro @Bool.not_eq_false (And.intro @beq_true @beq_self_eq_true.{0}))) (And.intro (And.intro @decide_true @decide_false) (And.intro @Bool.not_eq_eq_eq_not (And.intro @Bool.not_true @Bool.not_false)))) (And.intro (And.intro (And.intro @Bool.not_not @Bool.or_eq_true) (And.intro @Bool.and_eq_true (And.intro @Bool.or_eq_false_iff @Bool.and_eq_false_imp))) (And.intro (And.intro @beq_iff_eq.{0} (And.intro @beq_eq_false_iff_ne.{0} @bne_iff_ne.{0})) (And.intro @List.append_nil.{0} (And.intro @List.cons_append.{0} @List.nil_append.{0}))))))

end Go.Eng

/- The engine, part S: regions that draw their order, at whose end something new is made. -/
set_option linter.unusedVariables false
set_option linter.unusedSimpArgs false
set_option linter.unusedSectionVars false
namespace Go.Eng
open Go

def Rel (w w' : World) : Prop := RowKit.Below w.heap.size w w'
theorem Rel.refl (w : World) : Rel w w := RowKit.Below.refl _ _
theorem Rel.trans {a b c : World} (h : Rel a b) (h' : Rel b c) : Rel a c := RowKit.Below.trans h (RowKit.Below.mono h' h.size)

section
variable {P : Program} {ops : Array Oper} {md : Region.Mode}

def mildUpon (P : Program) (a : Act) (o : Oper) (K : Act → World → Prop) : Result Next → Prop
  | .ok (.value u) w' => K (a.put o.dst u) w'
  | .ok .skip w' => K (a.put o.dst undef) w'
  | .ok (.enter f args) w' => Calls P f args w' (fun e w'' => ∃ v, e = .returned v ∧ K (a.put o.dst v) w'')
  | _ => False
theorem mildUpon_mono {a : Act} {o : Oper} {K K' : Act → World → Prop} (h : ∀ a w, K a w → K' a w) : ∀ {r : Result Next}, mildUpon P a o K r → mildUpon P a o K' r
  | .ok (.value _) _, hh => h _ _ hh
  | .ok .skip _, hh => h _ _ hh
  | .ok (.enter _ _) _, hh => Calls.mono hh fun e w ⟨v, h1, h2⟩ => ⟨v, h1, h _ _ h2⟩
  | .ok (.defer _) _, hh => hh.elim
  | .ok (.row ..) _, hh => hh.elim
  | .halt _ _, hh => hh.elim
  | .ok (.stack ..) _, hh => hh.elim
  | .ok (.spawn ..) _, hh => hh.elim
  | .ok (.numGoroutine) _, hh => hh.elim
  | .ok (.newcoro ..) _, hh => hh.elim
  | .ok (.coroswitch ..) _, hh => hh.elim

def opR (P : Program) (ops : Array Oper) (i : Nat) (K : Act → World → Prop) (a : Act) (w : World) : Prop :=
  match ops[i]? with
  | none => K a w
  | some o => if Region.wanted o (yielded ops a.tmps) then mildUpon P a o K ((execOp a.eval o).run P w) else K (a.put o.dst undef) w
theorem opR_mono {i : Nat} {a : Act} {w : World} {K K' : Act → World → Prop} (h : ∀ a w, K a w → K' a w) (hh : opR P ops i K a w) : opR P ops i K' a w := by
  unfold opR at *
  split
  · rename_i ho; rw [ho] at hh; exact h _ _ hh
  · rename_i o ho
    simp only [ho] at hh
    split
    · rename_i hw; rw [if_pos hw] at hh; exact mildUpon_mono h hh
    · rename_i hw; rw [if_neg hw] at hh; exact h _ _ hh

/-- Operations after which what stood before may have changed. -/
def loudOp : Op → Bool
  | .store .. => true
  | .call ⟨.builtin .append, _, _⟩ => true
  | .call ⟨.builtin .copy, _, _⟩ => true
  | _ => false
def loudI (ops : Array Oper) (i : Nat) : Bool := match ops[i]? with | some o => loudOp o.op | none => false

def wpAnyR (P : Program) (md : Region.Mode) (ops : Array Oper) (Q : Act → World → Prop) : Nat → Array Bool → Act → World → Prop
  | 0, listed, a, w => Region.ready md ops listed = [] ∧ Q a w
  | fuel + 1, listed, a, w =>
    (Region.ready md ops listed = [] → Q a w) ∧
    ∀ i ∈ Region.ready md ops listed, opR P ops i (fun a' w' => (loudI ops i = false → Rel w w') ∧ ∀ w'', Rel w' w'' → wpAnyR P md ops Q fuel (listed.setIfInBounds i true) a' w'') a w

theorem wpOp_of_opR {i : Nat} {a : Act} {w : World} {K K' : Act → World → Prop} {Q' : Exit → Act → World → Prop} (h : ∀ a w, K a w → K' a w) (hh : opR P ops i K a w) : wpOp P ops Q' i K' a w := by
  unfold opR at hh
  unfold wpOp
  split
  · rename_i ho; rw [ho] at hh; exact h _ _ hh
  · rename_i o ho
    simp only [ho] at hh
    split
    · rename_i hw
      rw [if_pos hw] at hh
      refine .inl ?_
      unfold Oper.wp
      generalize (execOp a.eval o).run P w = r at *
      cases r with
      | ok n w' =>
        cases n <;> simp only [mildUpon] at hh <;> simp only [Oper.upon]
        case value u => exact h _ _ hh
        case skip => exact h _ _ hh
        case enter f args =>
          refine hh.mono fun e w'' ⟨v, h1, h2⟩ => ?_
          subst h1
          exact h _ _ h2
      | halt x w' => simp only [mildUpon] at hh
    · rename_i hw; rw [if_neg hw] at hh; exact h _ _ hh

theorem wpAny_of_R {Q : Act → World → Prop} {Q' : Exit → Act → World → Prop} (hQ : ∀ a w, Q a w → Q' .normal a w) : ∀ (fuel : Nat) (listed : Array Bool) (a : Act) (w : World),
    wpAnyR P md ops Q fuel listed a w → wpAny P md ops Q' fuel listed a w
  | 0, _, _, _, h => ⟨h.1, hQ _ _ h.2⟩
  | fuel + 1, _, _, _, h => ⟨fun h0 => hQ _ _ (h.1 h0), fun i hi => wpOp_of_opR (fun a' w' hh => wpAny_of_R hQ fuel _ a' w' (hh.2 w' (Rel.refl _))) (h.2 i hi)⟩

/-- The operation yields v in every world from here on, and what stands there stays. -/
def YieldsP (P : Program) (ops : Array Oper) (o : Oper) (v : Value) (a : Act) (w : World) : Prop :=
  (Region.wanted o (yielded ops a.tmps) = true ∧ ∀ w', Rel w w' → o.quietAt P a (Rel w') w' v) ∨ (Region.wanted o (yielded ops a.tmps) = false ∧ v = undef)
theorem YieldsP.rel {o : Oper} {v : Value} {a : Act} {w w' : World} (h : YieldsP P ops o v a w) (hr : Rel w w') : YieldsP P ops o v a w' :=
  h.imp (fun ⟨h1, h2⟩ => ⟨h1, fun w'' hr' => h2 w'' (hr.trans hr')⟩) id
theorem YieldsP.of_same {o : Oper} {v : Value} {a a' : Act} {w : World} (hy : YieldsP P ops o v a w) (he : execOp a'.eval o = execOp a.eval o)
    (hw : Region.wanted o (yielded ops a'.tmps) = Region.wanted o (yielded ops a.tmps)) : YieldsP P ops o v a' w := by
  unfold YieldsP Oper.quietAt at *
  rw [he, hw]
  exact hy

theorem YieldsP.op {i : Nat} {o : Oper} {v : Value} {a : Act} {w : World} (hi : ops[i]? = some o) (hy : YieldsP P ops o v a w) {K : Act → World → Prop} (h : ∀ w', Rel w w' → K (a.put o.dst v) w') : opR P ops i K a w := by
  unfold opR
  rw [hi]
  rcases hy with ⟨hw, hv⟩ | ⟨hw, rfl⟩
  · simp only [hw, if_true]
    have := hv w (Rel.refl w)
    unfold Oper.quietAt at this
    generalize (execOp a.eval o).run P w = r at *
    cases r with
    | ok n w' =>
      cases n <;> simp only [Oper.quietUpon] at this <;> simp only [mildUpon]
      case value u => obtain ⟨rfl, rfl⟩ := this; exact h _ (Rel.refl _)
      case skip => obtain ⟨rfl, rfl⟩ := this; exact h _ (Rel.refl _)
      case enter f args =>
        obtain ⟨rfl, hc⟩ := this
        exact hc.mono fun e w'' ⟨h1, h2⟩ => ⟨v, h1, h _ h2⟩
    | halt x w' => simp only [Oper.quietUpon] at this
  · simp only [hw, Bool.false_eq_true, if_false]; exact h w (Rel.refl w)

theorem opR_put {j : Nat} {oi oj : Oper} {v : Value} (hj : ops[j]? = some oj) (hap : oi.apart ops oj = true)
    (hsi : ∀ cs b, oi.op ≠ .select cs b) (hsj : ∀ cs b, oj.op ≠ .select cs b) {K : Act → World → Prop} {a : Act} {w : World}
    (hy : YieldsP P ops oi v a w) (h : opR P ops j (fun a' w' => Rel w w' ∧ K a' w') (a.put oi.dst v) w) :
    opR P ops j (fun a' w' => Rel w w' ∧ YieldsP P ops oi v a' w' ∧ K (a'.put oi.dst v) w') a w := by
  obtain ⟨h1, h2, h3⟩ := Oper.apart_spec hap
  have keep : ∀ u w', Rel w w' → YieldsP P ops oi v (a.put oj.dst u) w' := fun u w' hr =>
    (hy.of_same (execOp_put oi hsi a oj.dst u h3) (wanted_put oi a oj.dst u h3)).rel hr
  unfold opR at *
  simp only [hj] at *
  rw [wanted_put oj a oi.dst v h1] at h
  split
  · rename_i hw
    rw [if_pos hw, execOp_put oj hsj a oi.dst v h1] at h
    generalize (execOp a.eval oj).run P w = r at *
    cases r with
    | ok n w' =>
      cases n <;> simp only [mildUpon] at h ⊢
      case value u => exact ⟨h.1, keep u _ h.1, by rw [← Act.put_comm a v u h2]; exact h.2⟩
      case skip => exact ⟨h.1, keep _ _ h.1, by rw [← Act.put_comm a v undef h2]; exact h.2⟩
      case enter f args => exact h.mono fun e w'' ⟨u, g1, g2, g3⟩ => ⟨u, g1, g2, keep u _ g2, by rw [← Act.put_comm a v u h2]; exact g3⟩
    | halt x w' => simp only [mildUpon] at h
  · rename_i hw
    rw [if_neg hw] at h
    exact ⟨h.1, keep _ _ h.1, by rw [← Act.put_comm a v undef h2]; exact h.2⟩

/-- What waits for operation i, as a table. -/
def depTab (md : Region.Mode) (ops : Array Oper) (i : Nat) : List Bool :=
  ops.toList.foldl (fun D o => D ++ [decide (D.length = i) || o.after.any fun e => Region.binds md e && D.getD e.on false]) []
def depChk (md : Region.Mode) (ops : Array Oper) (i : Nat) (D : List Bool) : Bool :=
  decide (D.length ≤ ops.size) && (List.range ops.size).all fun j => j == i || !(D.getD j false) || (match ops[j]? with | some o => o.after.any (fun e => Region.binds md e && D.getD e.on false) | none => false)
def loudChk (ops : Array Oper) (D : List Bool) : Bool := (List.range ops.size).all fun j => !(loudI ops j) || D.getD j false
def unlChk (D : List Bool) (listed : Array Bool) : Bool := (List.range D.length).all fun j => !(D.getD j false) || !(listed.getD j true)

theorem depChk_spec {i : Nat} {D : List Bool} (h : depChk md ops i D = true) {j : Nat} (hj : j ≠ i) (hd : D.getD j false = true) : ∃ o e, ops[j]? = some o ∧ e ∈ o.after ∧ Region.binds md e = true ∧ D.getD e.on false = true := by
  simp only [depChk, Bool.and_eq_true, decide_eq_true_eq, List.all_eq_true, List.mem_range] at h
  obtain ⟨h1, h2⟩ := h
  have hl : j < D.length := by
    rcases Nat.lt_or_ge j D.length with h' | h'
    · exact h'
    · rw [List.getD_eq_getElem?_getD, List.getElem?_eq_none h'] at hd; cases hd
  have := h2 j (by omega)
  rw [hd] at this
  have hne : (j == i) = false := by simpa using hj
  rw [hne] at this
  simp only [Bool.not_true, Bool.or_false, Bool.false_or] at this
  cases ho : ops[j]? with
  | none => rw [ho] at this; cases this
  | some o =>
    rw [ho] at this
    simp only [Array.any_eq_true] at this
    obtain ⟨x, hx, hb⟩ := this
    simp only [Bool.and_eq_true] at hb
    exact ⟨o, o.after[x], rfl, Array.getElem_mem hx, hb.1, hb.2⟩
theorem loudChk_spec {D : List Bool} (h : loudChk ops D = true) {j : Nat} (hj : D.getD j false = false) : loudI ops j = false := by
  cases hl : loudI ops j with
  | false => rfl
  | true =>
    simp only [loudChk, List.all_eq_true, List.mem_range] at h
    have hlt : j < ops.size := by
      rcases Nat.lt_or_ge j ops.size with h' | h'
      · exact h'
      · unfold loudI at hl; rw [Array.getElem?_eq_none h'] at hl; cases hl
    have := h j hlt
    rw [hl, hj] at this; cases this
theorem unlChk_spec {D : List Bool} {listed : Array Bool} (h : unlChk D listed = true) {j : Nat} (hj : D.getD j false = true) : listed.getD j true = false := by
  simp only [unlChk, List.all_eq_true, List.mem_range] at h
  have hl : j < D.length := by
    rcases Nat.lt_or_ge j D.length with h' | h'
    · exact h'
    · rw [List.getD_eq_getElem?_getD, List.getElem?_eq_none h'] at hj; cases hj
  have := h j hl
  rw [hj] at this
  simpa using this

theorem wpAnyR_first {Q : Act → World → Prop} {i : Nat} {oi : Oper} {v : Value} (hi : ops[i]? = some oi) (hsel : ∀ (j : Nat) (o : Oper) cs b, ops[j]? = some o → o.op ≠ .select cs b)
    {D : List Bool} (hD : depChk md ops i D = true) (hL : loudChk ops D = true) :
    ∀ (fuel : Nat) (listed : Array Bool) (a : Act) (w : World),
      (∀ j oj, ops[j]? = some oj → j ≠ i → listed.getD j true = false → (∀ e ∈ oj.after, Region.binds md e = true → e.on ≠ i) → oi.apart ops oj = true) →
      (∀ j, D.getD j false = true → listed.getD j true = false) →
      i ∈ Region.ready md ops listed → YieldsP P ops oi v a w → loudI ops i = false →
      (∀ w', Rel w w' → wpAnyR P md ops Q fuel (listed.setIfInBounds i true) (a.put oi.dst v) w') → wpAnyR P md ops Q (fuel + 1) listed a w := by
  intro fuel
  induction fuel with
  | zero =>
    intro listed a w _ _ hr hy _ H
    refine ⟨fun h => (by rw [h] at hr; cases hr), fun j hj => ?_⟩
    by_cases hji : j = i
    · subst hji; exact hy.op hi fun w' hr' => ⟨fun _ => hr', fun w'' hr'' => H w'' (hr'.trans hr'')⟩
    · have := ready_mono hj hji
      rw [(H w (Rel.refl w)).1] at this
      cases this
  | succ fuel ih =>
    intro listed a w hfree hinv hr hy hq H
    refine ⟨fun h => (by rw [h] at hr; cases hr), fun j hj => ?_⟩
    by_cases hji : j = i
    · subst hji; exact hy.op hi fun w' hr' => ⟨fun _ => hr', fun w'' hr'' => H w'' (hr'.trans hr'')⟩
    · have h1 := (H w (Rel.refl w)).2 j (ready_mono hj hji)
      obtain ⟨hjun, oj, hoj, hall⟩ := mem_ready.1 hj
      have hnot : ∀ e ∈ oj.after, Region.binds md e = true → e.on ≠ i := fun e he hb heq => by
        have h1 := hall e he hb
        have h0 := (mem_ready.1 hr).1
        rw [heq] at h1
        rcases Nat.lt_or_ge i listed.size with h' | h'
        · simp [h'] at h0 h1; rw [h0] at h1; cases h1
        · simp [Array.getElem?_eq_none h'] at h1
      have hDj : D.getD j false = false := by
        cases hd : D.getD j false with
        | false => rfl
        | true =>
          obtain ⟨o, e, ho, he, hb, hde⟩ := depChk_spec hD hji hd
          rw [hoj] at ho; simp only [Option.some.injEq] at ho; subst ho
          have g1 := hall e he hb
          have g2 := hinv _ hde
          rcases Nat.lt_or_ge e.on listed.size with h' | h'
          · simp [h'] at g1 g2; rw [g1] at g2; cases g2
          · simp [Array.getElem?_eq_none h'] at g2
      have hlj := loudChk_spec hL hDj
      have h2 := opR_put hoj (hfree j oj hoj hji hjun hnot) (fun cs b => hsel i oi cs b hi) (fun cs b => hsel j oj cs b hoj) hy (opR_mono (fun a' w' ⟨g1, g2⟩ => ⟨g1 hlj, g2⟩) h1)
      have hfree' : ∀ k ok, ops[k]? = some ok → k ≠ i → (listed.setIfInBounds j true).getD k true = false →
          (∀ e ∈ ok.after, Region.binds md e = true → e.on ≠ i) → oi.apart ops ok = true := fun k ok hk hki hun hno => by
        refine hfree k ok hk hki ?_ hno
        by_cases hjk : j = k
        · subst hjk; exact hjun
        · rw [Go.getD_set_ne true hjk] at hun; exact hun
      have hinv' : ∀ k, D.getD k false = true → (listed.setIfInBounds j true).getD k true = false := fun k hk => by
        have hjk : j ≠ k := by intro he; subst he; rw [hDj] at hk; cases hk
        rw [Go.getD_set_ne true hjk]; exact hinv k hk
      refine opR_mono (fun a' w' ⟨g1, g2, g3⟩ => ⟨fun _ => g1, fun w'' hr'' => ih (listed.setIfInBounds j true) a' w'' hfree' hinv' (ready_mono hr (Ne.symm hji)) (g2.rel hr'') hq fun w3 hr3 => ?_⟩) h2
      rw [Array.setIfInBounds_comm _ _ hji]
      exact g3 w3 (hr''.trans hr3)

def dumbOp : Op → Bool
  | .move _ => true
  | _ => false
def dumbI (ops : Array Oper) (i : Nat) : Bool := match ops[i]? with | some o => dumbOp o.op | none => false
/-- What a move yields no world turns. -/
theorem YieldsP.dumb {o : Oper} {v : Value} {a : Act} {w : World} (hd : dumbOp o.op = true) (h : YieldsP P ops o v a w) (w2 : World) : YieldsP P ops o v a w2 := by
  rcases h with ⟨h1, h2⟩ | h
  · refine .inl ⟨h1, fun w' _ => ?_⟩
    have := h2 w (Rel.refl w)
    unfold Oper.quietAt at *
    cases ho : o.op <;> rw [ho] at hd <;> try (cases hd; done)
    simp only [execOp, ho] at this ⊢
    exact ⟨rfl, this.2⟩
  · exact .inr h
theorem opR_putD {j : Nat} {oi oj : Oper} {v : Value} (hj : ops[j]? = some oj) (hap : oi.apart ops oj = true)
    (hsi : ∀ cs b, oi.op ≠ .select cs b) (hsj : ∀ cs b, oj.op ≠ .select cs b) {K : Act → World → Prop} {a : Act} {w : World}
    (hy : ∀ w, YieldsP P ops oi v a w) (h : opR P ops j K (a.put oi.dst v) w) :
    opR P ops j (fun a' w' => (∀ w, YieldsP P ops oi v a' w) ∧ K (a'.put oi.dst v) w') a w := by
  obtain ⟨h1, h2, h3⟩ := Oper.apart_spec hap
  have keep : ∀ u w', YieldsP P ops oi v (a.put oj.dst u) w' := fun u w' =>
    ((hy w').of_same (execOp_put oi hsi a oj.dst u h3) (wanted_put oi a oj.dst u h3))
  unfold opR at *
  simp only [hj] at *
  rw [wanted_put oj a oi.dst v h1] at h
  split
  · rename_i hw
    rw [if_pos hw, execOp_put oj hsj a oi.dst v h1] at h
    generalize (execOp a.eval oj).run P w = r at *
    cases r with
    | ok n w' =>
      cases n <;> simp only [mildUpon] at h ⊢
      case value u => exact ⟨keep u, by rw [← Act.put_comm a v u h2]; exact h⟩
      case skip => exact ⟨keep _, by rw [← Act.put_comm a v undef h2]; exact h⟩
      case enter f args => exact h.mono fun e w'' ⟨u, g1, g3⟩ => ⟨u, g1, keep u, by rw [← Act.put_comm a v u h2]; exact g3⟩
    | halt x w' => simp only [mildUpon] at h
  · rename_i hw
    rw [if_neg hw] at h
    exact ⟨keep _, by rw [← Act.put_comm a v undef h2]; exact h⟩

theorem wpAnyR_firstD {Q : Act → World → Prop} {i : Nat} {oi : Oper} {v : Value} (hi : ops[i]? = some oi) (hsel : ∀ (j : Nat) (o : Oper) cs b, ops[j]? = some o → o.op ≠ .select cs b)
    {D : List Bool} (hD : depChk md ops i D = true) :
    ∀ (fuel : Nat) (listed : Array Bool) (a : Act) (w : World),
      (∀ j oj, ops[j]? = some oj → j ≠ i → listed.getD j true = false → (∀ e ∈ oj.after, Region.binds md e = true → e.on ≠ i) → oi.apart ops oj = true) →
      (∀ j, D.getD j false = true → listed.getD j true = false) →
      i ∈ Region.ready md ops listed → (∀ w, YieldsP P ops oi v a w) → loudI ops i = false →
      (∀ w', Rel w w' → wpAnyR P md ops Q fuel (listed.setIfInBounds i true) (a.put oi.dst v) w') → wpAnyR P md ops Q (fuel + 1) listed a w := by
  intro fuel
  induction fuel with
  | zero =>
    intro listed a w _ _ hr hy _ H
    refine ⟨fun h => (by rw [h] at hr; cases hr), fun j hj => ?_⟩
    by_cases hji : j = i
    · subst hji; exact (hy w).op hi fun w' hr' => ⟨fun _ => hr', fun w'' hr'' => H w'' (hr'.trans hr'')⟩
    · have := ready_mono hj hji
      rw [(H w (Rel.refl w)).1] at this
      cases this
  | succ fuel ih =>
    intro listed a w hfree hinv hr hy hq H
    refine ⟨fun h => (by rw [h] at hr; cases hr), fun j hj => ?_⟩
    by_cases hji : j = i
    · subst hji; exact (hy w).op hi fun w' hr' => ⟨fun _ => hr', fun w'' hr'' => H w'' (hr'.trans hr'')⟩
    · have h1 := (H w (Rel.refl w)).2 j (ready_mono hj hji)
      obtain ⟨hjun, oj, hoj, hall⟩ := mem_ready.1 hj
      have hnot : ∀ e ∈ oj.after, Region.binds md e = true → e.on ≠ i := fun e he hb heq => by
        have h1 := hall e he hb
        have h0 := (mem_ready.1 hr).1
        rw [heq] at h1
        rcases Nat.lt_or_ge i listed.size with h' | h'
        · simp [h'] at h0 h1; rw [h0] at h1; cases h1
        · simp [Array.getElem?_eq_none h'] at h1
      have hDj : D.getD j false = false := by
        cases hd : D.getD j false with
        | false => rfl
        | true =>
          obtain ⟨o, e, ho, he, hb, hde⟩ := depChk_spec hD hji hd
          rw [hoj] at ho; simp only [Option.some.injEq] at ho; subst ho
          have g1 := hall e he hb
          have g2 := hinv _ hde
          rcases Nat.lt_or_ge e.on listed.size with h' | h'
          · simp [h'] at g1 g2; rw [g1] at g2; cases g2
          · simp [Array.getElem?_eq_none h'] at g2
      have h2 := opR_putD hoj (hfree j oj hoj hji hjun hnot) (fun cs b => hsel i oi cs b hi) (fun cs b => hsel j oj cs b hoj) hy h1
      have hfree' : ∀ k ok, ops[k]? = some ok → k ≠ i → (listed.setIfInBounds j true).getD k true = false →
          (∀ e ∈ ok.after, Region.binds md e = true → e.on ≠ i) → oi.apart ops ok = true := fun k ok hk hki hun hno => by
        refine hfree k ok hk hki ?_ hno
        by_cases hjk : j = k
        · subst hjk; exact hjun
        · rw [Go.getD_set_ne true hjk] at hun; exact hun
      have hinv' : ∀ k, D.getD k false = true → (listed.setIfInBounds j true).getD k true = false := fun k hk => by
        have hjk : j ≠ k := by intro he; subst he; rw [hDj] at hk; cases hk
        rw [Go.getD_set_ne true hjk]; exact hinv k hk
      refine opR_mono (fun a' w' ⟨g1, g2, g3⟩ => ⟨g2, fun w'' hr'' => ih (listed.setIfInBounds j true) a' w'' hfree' hinv' (ready_mono hr (Ne.symm hji)) g1 hq fun w3 hr3 => ?_⟩) h2
      rw [Array.setIfInBounds_comm _ _ hji]
      exact g3 w3 (hr''.trans hr3)

/-- In the order of the text: n operations that yield the same in every later world, then such as can only come in this order. -/
def wpMix (P : Program) (ops : Array Oper) (Q : Act → World → Prop) : Nat → List Oper → Act → World → Prop
  | _, [], a, w => Q a w
  | n + 1, o :: r, a, w => ∃ v, YieldsP P ops o v a w ∧ ∀ w', Rel w w' → wpMix P ops Q n r (a.put o.dst v) w'
  | 0, o :: r, a, w => if Region.wanted o (yielded ops a.tmps) then mildUpon P a o (fun a' w' => (loudOp o.op = false → Rel w w') ∧ ∀ w'', Rel w' w'' → wpMix P ops Q 0 r a' w'') ((execOp a.eval o).run P w) else ∀ w'', Rel w w'' → wpMix P ops Q 0 r (a.put o.dst undef) w''
def mixFrom (md : Region.Mode) (ops : Array Oper) : Nat → Nat → Nat → Array Bool → Bool
  | _, 0, _, listed => (Region.ready md ops listed).isEmpty
  | n + 1, fuel + 1, k, listed => (Region.ready md ops listed).contains k && Region.free md ops listed k && (!(loudI ops k) && depChk md ops k (depTab md ops k) && (loudChk ops (depTab md ops k) || dumbI ops k) && unlChk (depTab md ops k) listed) && mixFrom md ops n fuel (k + 1) (listed.setIfInBounds k true)
  | 0, fuel + 1, k, listed => (Region.ready md ops listed == [k]) && mixFrom md ops 0 fuel (k + 1) (listed.setIfInBounds k true)
def mixB (ops : Array Oper) (n : Nat) : Bool := Region.noSelect ops && mixFrom .any ops n ops.size 0 (Array.replicate ops.size false)

theorem wpAnyR_mix {Q : Act → World → Prop} (hs : Region.noSelect ops = true) : ∀ (l : List Oper) (n k : Nat) (listed : Array Bool) (a : Act) (w : World), (∀ j, l[j]? = ops[k + j]?) →
    mixFrom md ops n l.length k listed = true → wpMix P ops Q n l a w → wpAnyR P md ops Q l.length listed a w
  | [], n, _, _, _, _, _, hB, h => by
    cases n with
    | zero => exact And.intro (by simpa [mixFrom] using hB) h
    | succ n => exact And.intro (by simpa [mixFrom] using hB) h
  | o :: l, n + 1, k, listed, a, w, hl, hB, h => by
    have h0 : ops[k]? = some o := by simpa using (hl 0).symm
    simp only [List.length_cons, mixFrom, Bool.and_eq_true, Bool.not_eq_true'] at hB
    obtain ⟨⟨⟨hr, hf⟩, ⟨⟨hq, hd⟩, hlo⟩, hun⟩, hB'⟩ := hB
    obtain ⟨v, hy, hK⟩ := h
    have hnext := fun w' hr' => wpAnyR_mix hs l n (k + 1) _ _ w' (fun j => by have := hl (j + 1); simpa [Nat.add_assoc, Nat.add_comm 1 j] using this) hB' (hK w' hr')
    simp only [Bool.or_eq_true] at hlo
    rcases hlo with hlo | hlo
    rotate_left
    · have hdu : dumbOp o.op = true := by unfold dumbI at hlo; rw [h0] at hlo; exact hlo
      exact wpAnyR_firstD h0 (Region.noSelect_spec hs) hd l.length listed a w (Region.free_spec h0 hf) (fun j hj => unlChk_spec hun hj) (by simpa using hr) (hy.dumb hdu) hq hnext
    exact wpAnyR_first h0 (Region.noSelect_spec hs) hd hlo l.length listed a w (Region.free_spec h0 hf) (fun j hj => unlChk_spec hun hj) (by simpa using hr) hy hq
      (fun w' hr' => wpAnyR_mix hs l n (k + 1) _ _ w' (fun j => by have := hl (j + 1); simpa [Nat.add_assoc, Nat.add_comm 1 j] using this) hB' (hK w' hr'))
  | o :: l, 0, k, listed, a, w, hl, hB, h => by
    have h0 : ops[k]? = some o := by simpa using (hl 0).symm
    simp only [List.length_cons, mixFrom, Bool.and_eq_true, beq_iff_eq] at hB
    obtain ⟨hr, hB'⟩ := hB
    have hlo : loudI ops k = loudOp o.op := by unfold loudI; rw [h0]
    have next : ∀ a' w', wpMix P ops Q 0 l a' w' → wpAnyR P md ops Q l.length (listed.setIfInBounds k true) a' w' := fun a' w' hK =>
      wpAnyR_mix hs l 0 (k + 1) _ a' w' (fun j => by have := hl (j + 1); simpa [Nat.add_assoc, Nat.add_comm 1 j] using this) hB' hK
    refine ⟨fun hn => (by rw [hr] at hn; cases hn), fun i hi => ?_⟩
    rw [hr] at hi
    simp only [List.mem_singleton] at hi
    subst hi
    unfold opR
    rw [h0, hlo]
    unfold wpMix at h
    simp only
    split
    · rename_i hw
      rw [if_pos hw] at h
      exact mildUpon_mono (fun a' w' ⟨g1, g2⟩ => ⟨g1, fun w'' hr'' => next a' w'' (g2 w'' hr'')⟩) h
    · rename_i hw
      rw [if_neg hw] at h
      exact ⟨fun _ => Rel.refl w, fun w'' hr'' => next _ w'' (h w'' hr'')⟩

theorem wp_region_mix {id n : Nat} {Q : Exit → Act → World → Prop} {a : Act} {w : World} (hm : P.follows .mixedOrders = true) (hB : mixB ops n = true)
    (h : wpMix P ops (fun a' w' => Q .normal a' w') n ops.toList a { w with drawn := w.drawn + 1 }) : (Code.region id ops true).wp P Q a w := by
  simp only [mixB, Bool.and_eq_true] at hB
  refine wp_region_any hm (wpAny_of_R (Q := fun a' w' => Q .normal a' w') (fun _ _ h => h) _ _ _ _ ?_)
  have := wpAnyR_mix (md := .any) hB.1 ops.toList n 0 (Array.replicate ops.size false) a _ (by simp) (by simpa using hB.2) h
  simpa using this
end

/-! ### The walk of such a region -/
variable {P : Program} {K : St → Prop}

theorem mix0 {Q : Act → World → Prop} {r : List Oper} {o : Oper} {v : Value} {a : Act} {w : World} {ops : Array Oper} (h1 : YieldsP P ops o v a w) (hk : ∀ w', Rel w w' → wpMix P ops Q 0 r (a.put o.dst v) w') : wpMix P ops Q 0 (o :: r) a w := by
  unfold wpMix
  rcases h1 with ⟨hw, hv⟩ | ⟨hw, rfl⟩
  · rw [if_pos hw]
    have := hv w (Rel.refl w)
    unfold Oper.quietAt at this
    generalize (execOp a.eval o).run P w = q at *
    cases q with
    | ok n w' =>
      cases n <;> simp only [Oper.quietUpon] at this <;> simp only [mildUpon]
      case value u => obtain ⟨rfl, rfl⟩ := this; exact ⟨fun _ => Rel.refl _, hk⟩
      case skip => obtain ⟨rfl, rfl⟩ := this; exact ⟨fun _ => Rel.refl _, hk⟩
      case enter f args =>
        obtain ⟨rfl, hc⟩ := this
        exact hc.mono fun e w'' ⟨h1, h2⟩ => ⟨v, h1, fun _ => h2, fun w3 hr => hk w3 (h2.trans hr)⟩
    | halt x w' => simp only [Oper.quietUpon] at this
  · rw [if_neg (by rw [hw]; simp)]; exact hk

/-- The rest of the region, in the order of the text. -/
def MX (P : Program) (K : St → Prop) (S : List Fr) (all : List Oper) (n : Nat) (l : List Oper) (s : St) : Prop :=
  ∀ (B : Base) (Q : Exit → Act → World → Prop), (∀ m s a w, Sat B m s a w → K s → Q .ret a w ∧ Q .normal a w) → ∀ m a w, Sat B m s a w → wpMix P all.toArray (fun a w => den P B Q S .normal a w) n l a w

theorem V_mix (hm : P.follows .mixedOrders = true) {id : Nat} {l : List Oper} {S : List Fr} {s : St} (n : Nat) (hn : hasNews P l = true) (hB : mixB l.toArray n = true) (h : MX P K S l n l s) : V P K (.code (.region id ⟨l⟩ true) :: S) s := by
  rw [V_regionQ, hn]
  refine good_of_den (by simp) fun B Q hQ m a w hs => ?_
  simp only [den, Exit.then]
  have hd : RowKit.Below w.heap.size w { w with drawn := w.drawn + 1 } := (RowKit.Below.refl _ _).drew
  have := h B Q hQ _ a _ (hs.below hd)
  refine wp_region_mix hm hB ?_
  exact this

theorem VQ_mix (hm : P.follows .mixedOrders = true) {id : Nat} {l : List Oper} {S : List Fr} {s : St} (n : Nat) (hn : hasNews P l = true) (hB : mixB l.toArray n = true) (h : MX P K S l n l s) : VQ P K id l S s true := by
  have := V_mix (id := id) hm n hn hB h
  rwa [V_regionQ, hn] at this

theorem MX_nil (hm : P.follows .mixedOrders = true) {S : List Fr} {all : List Oper} {n : Nat} {s : St} (hw : wfS S) (h : V P K S s) : MX P K S all n [] s := by
  intro B Q hQ m a w hs
  have hwT : wfT S := by cases S with
    | nil => trivial
    | cons f S => cases f <;> first | exact hw | exact hw.elim
  have := (V_good hm hwT h).use hQ (okS_ne (wfS_ok hw)) hs
  cases n <;> exact this

theorem pure_step {B : Base} {m : Mem} {s : St} {a : Act} {w : World} {all : List Oper} {o : Oper} {safe : Prop} {av : AV} (hp : pureOp P s o.op = some (safe, av)) (hg : s.gOk all o.guard) (hd : dstN s o.dst) (hsafe : s.G all o.guard = true → safe) (hs : Sat B m s a w) :
    ∃ v, YieldsP P all.toArray o v a w ∧ Sat B m (s.putO o.dst (s.G all o.guard) av) (a.put o.dst v) w := by
  have hwt := wanted_eq hs all.toArray o (by simpa using hg)
  rw [List.toList_toArray] at hwt
  cases hG : s.G all o.guard with
  | true =>
    rw [hG] at hwt
    obtain ⟨u, g1, g2⟩ := pure_sound hp (hsafe hG) hs
    refine ⟨u, .inl ⟨hwt, fun w' hr => ?_⟩, putO_sat hs hd (fun _ => g1) (fun hc => by simp at hc)⟩
    unfold Oper.quietAt
    rw [g2 w' hr]
    exact ⟨rfl, rfl⟩
  | false =>
    rw [hG] at hwt
    exact ⟨undef, .inr ⟨hwt, rfl⟩, putO_sat hs hd (fun hc => by simp at hc) (fun _ => rfl)⟩

theorem MX_pure {S : List Fr} {all r : List Oper} {n : Nat} {o : Oper} {s : St} {safe : Prop} {av : AV} (hp : pureOp P s o.op = some (safe, av)) (hg : s.gOk all o.guard) (hd : dstN s o.dst) (hsafe : s.G all o.guard = true → safe)
    (h : MX P K S all (n - 1) r (s.putO o.dst (s.G all o.guard) av)) : MX P K S all n (o :: r) s := by
  intro B Q hQ m a w hs
  obtain ⟨v, h1, h2⟩ := pure_step hp hg hd hsafe hs
  have hk := fun w' (hr : Rel w w') => h B Q hQ _ _ w' (h2.below hr)
  cases n with
  | succ n => exact ⟨v, h1, hk⟩
  | zero => exact mix0 h1 hk

/-- A call that hands back a flat value, in such a region. -/
theorem MX_call {S : List Fr} {all r : List Oper} {n : Nat} {d : Option Tmp} {ty : TypeId} {ps : String} {af : Array Edge} {g : Option (Nat × Bool)} {s : St} {fo : Operand} {args : List Operand} {ts : Array TypeId}
    {f : FuncId} {cap xs : List AV} {v : Value} (hc : s.G all g = true → Gives P f xs v) (hG : s.G all g = true → s.ev fo = (true, .fn f cap) ∧ evsP s args ∧ fitsL ((evs s args ++ cap).map (roV s.h 4)) xs) (hg : s.gOk all g) (hd : dstN s d)
    (h : MX P K S all (n - 1) r (s.putO d (s.G all g) (.v v))) : MX P K S all n (⟨d, .call ⟨.value fo, ⟨args⟩, ts⟩, ty, ps, af, g⟩ :: r) s := by
  intro B Q hQ m a w hs
  have hwt := wanted_eq hs all.toArray (⟨d, .call ⟨.value fo, ⟨args⟩, ts⟩, ty, ps, af, g⟩ : Oper) (by simpa using hg)
  rw [List.toList_toArray] at hwt
  have hy : ∃ u, YieldsP P all.toArray (⟨d, .call ⟨.value fo, ⟨args⟩, ts⟩, ty, ps, af, g⟩ : Oper) u a w ∧ Sat B m (s.putO d (s.G all g) (.v v)) (a.put d u) w := by
    cases hGv : s.G all g with
    | true =>
      rw [hGv] at hwt
      obtain ⟨h1, h2, h3⟩ := hG hGv
      have h4 := hc hGv
      obtain ⟨us, k1, k2⟩ := call_enter (P := P) (o := ⟨d, .call ⟨.value fo, ⟨args⟩, ts⟩, ty, ps, af, g⟩) hs rfl h1 h2 h4.enter
      refine ⟨v, .inl ⟨hwt, fun w' hb => ?_⟩, putO_sat hs hd (fun _ => ok_v.2 rfl) (fun hc => by simp at hc)⟩
      unfold Oper.quietAt
      rw [k2 w']
      have hs' := hs.below hb
      have hx : Oks (m.at w') (evs s args ++ cap) us := Oks.mono (m := m) (m' := m.at w') ⟨rfl, fun _ _ h => h, fun l b hl => by
        show m.z b ≤ bsz w' b
        rw [hs.core.z, bsz_below hb (hs.core.lt l b hl)]; exact Nat.le_refl _⟩ _ _ k1
      have hx' := fitsL_ok _ _ _ h3 (hx.map (fun x u => roV_ok hs'.core 4 x u))
      exact ⟨rfl, h4.calls _ w' us (totR_ok w') hx'⟩
    | false =>
      rw [hGv] at hwt
      exact ⟨undef, .inr ⟨hwt, rfl⟩, putO_sat hs hd (fun hc => by simp at hc) (fun _ => rfl)⟩
  obtain ⟨v, h1, h2⟩ := hy
  have hk := fun w' (hr : Rel w w') => h B Q hQ _ _ w' (h2.below hr)
  cases n with
  | succ n => exact ⟨v, h1, hk⟩
  | zero => exact mix0 h1 hk

/-- A call that hands back new chunks, in such a region, behind all that yields the same in any order. -/
theorem MX_callR {S : List Fr} {all r : List Oper} {d : Option Tmp} {ty : TypeId} {ps : String} {af : Array Edge} {g : Option (Nat × Bool)} {s : St} {fo : Operand} {args : List Operand} {ts : Array TypeId}
    {f : FuncId} {cap xs : List AV} {av : AV} {h : Heap} {n : Nat} (hc : Reads P f xs av h n) (hG : s.G all g = true ∧ s.ev fo = (true, .fn f cap) ∧ evsP s args ∧ fitsL ((evs s args ++ cap).map (roV s.h 4)) xs ∧ av.noR ∧ noRH h ∧ keysLt s.nk s.h) (hg : s.gOk all g) (hd : dstN s d)
    (hr : MX P K S all 0 r (St.putO ⟨s.t, shH s.nk h s.h, s.nk + n, s.N⟩ d true (av.sh s.nk))) : MX P K S all 0 (⟨d, .call ⟨.value fo, ⟨args⟩, ts⟩, ty, ps, af, g⟩ :: r) s := by
  intro B Q hQ m a w hs
  obtain ⟨hGt, h1, h2, h3, hno, hnoh, hkl⟩ := hG
  obtain ⟨us, k1, k2⟩ := call_enter (P := P) (o := ⟨d, .call ⟨.value fo, ⟨args⟩, ts⟩, ty, ps, af, g⟩) hs rfl h1 h2 hc.enter
  have hwt := wanted_eq hs all.toArray (⟨d, .call ⟨.value fo, ⟨args⟩, ts⟩, ty, ps, af, g⟩ : Oper) (by simpa using hg)
  rw [List.toList_toArray, hGt] at hwt
  unfold wpMix
  rw [if_pos hwt, k2 w]
  have hx' := k1.map (fun x u => roV_ok hs.core 4 x u)
  have hx' := fitsL_ok _ _ _ h3 hx'
  refine (hc.calls _ w us (totR_ok w) hx').mono fun e w'' ⟨u, m', he, hb, hok, hcore, hmr, hnew⟩ => ?_
  subst he
  obtain ⟨m'', hs'', _, htr⟩ := hs.take hb hcore hnew (.inr hnoh) hkl
  have hd' : dstN ⟨s.t, shH s.nk h s.h, s.nk + n, s.N⟩ d := by cases d <;> exact hd
  have hput := putO_sat (c := true) (x := av.sh s.nk) (u := u) hs'' hd' (fun _ => htr _ _ (.inr hno) hok) (fun hc => by simp at hc)
  exact ⟨u, rfl, fun _ => hb, fun w3 hr3 => hr B Q hQ _ _ w3 (hput.below hr3)⟩

/-- Something new, or a change, behind all that yields the same in any order. -/
theorem MX_mem {S : List Fr} {all r : List Oper} {o : Oper} {s s' : St} {safe : Prop} {av : AV} (hp : memOp P s o.op = some (safe, s', av)) (hg : s.gOk all o.guard) (hd : dstN s o.dst)
    (h1 : s.G all o.guard = true → safe ∧ MX P K S all 0 r (s'.putO o.dst true av)) (h2 : s.G all o.guard = false → MX P K S all 0 r (s.putO o.dst false .bad)) : MX P K S all 0 (o :: r) s := by
  intro B Q hQ m a w hs
  have hwt := wanted_eq hs all.toArray o (by simpa using hg)
  rw [List.toList_toArray] at hwt
  unfold wpMix
  cases hGv : s.G all o.guard with
  | true =>
    rw [hGv] at hwt
    rw [if_pos hwt]
    obtain ⟨hsafe, hn⟩ := h1 hGv
    obtain ⟨hN, n, u, w1, m', k1, k2, k3, k4⟩ := memOp_sound hp hsafe hs
    have hd' : dstN s' o.dst := by cases hdd : o.dst with
      | none => trivial
      | some d => rw [hdd] at hd; show d < s'.N; rw [hN]; exact hd
    have hput := putO_sat k4 hd' (c := true) (fun _ => k3) (fun hc => by simp at hc)
    have hrel : loudOp o.op = false → Rel w w1 := fun hl => by
      unfold memOp at hp
      cases hno : newOp P s o.op with
      | some p =>
        obtain ⟨safe0, ch, av0⟩ := p
        rw [hno] at hp
        simp only [Option.some.injEq, Prod.mk.injEq] at hp
        obtain ⟨rfl, rfl, rfl⟩ := hp
        obtain ⟨u', w1', m'', q1, q2, q3, q4⟩ := newOp_sound hno hsafe hs
        rw [k1] at q1
        cases q1
        exact q4
      | none =>
        rw [hno] at hp
        simp only at hp
        split at hp
        · rename_i t p x ho
          rw [ho] at hl; cases hl
        · rename_i x y t t2 ho
          rw [ho] at hl; cases hl
        · rename_i x y t t2 ho
          rw [ho] at hl; cases hl
        · simp at hp
    rw [k1]
    rcases k2 with rfl | ⟨rfl, rfl⟩
    · exact ⟨hrel, fun w'' hr => hn B Q hQ _ _ w'' (hput.below hr)⟩
    · exact ⟨hrel, fun w'' hr => hn B Q hQ _ _ w'' (hput.below hr)⟩
  | false =>
    rw [hGv] at hwt
    rw [if_neg (by rw [hwt]; simp)]
    exact fun w'' hr => h2 hGv B Q hQ _ _ w'' ((putO_sat hs hd (fun hc => by simp at hc) (fun _ => rfl)).below hr)

/-- The walk of such a region, up to the next call. -/
def VM (P : Program) (K : St → Prop) (S : List Fr) (all : List Oper) : Nat → List Oper → St → Prop
  | _, [], s => V P K S s
  | n, o :: r, s => match pureOp P s o.op with
    | some (safe, av) => s.gOk all o.guard ∧ dstN s o.dst ∧ (s.G all o.guard = true → safe) ∧ VM P K S all (n - 1) r (s.putO o.dst (s.G all o.guard) av)
    | none => match n with
      | 0 => match memOp P s o.op with
        | some (safe, s', av) => s.gOk all o.guard ∧ dstN s o.dst ∧ (s.G all o.guard = true → safe ∧ VM P K S all 0 r (s'.putO o.dst true av)) ∧ (s.G all o.guard = false → VM P K S all 0 r (s.putO o.dst false .bad))
        | none => MX P K S all 0 (o :: r) s
      | n + 1 => MX P K S all (n + 1) (o :: r) s

theorem MX_of_VM (hm : P.follows .mixedOrders = true) {S : List Fr} {all : List Oper} (hw : wfS S) : ∀ (l : List Oper) (n : Nat) (s : St), VM P K S all n l s → MX P K S all n l s
  | [], n, s, h => MX_nil hm hw (by unfold VM at h; exact h)
  | o :: r, n, s, h => by
    unfold VM at h
    split at h
    · rename_i safe av hp
      obtain ⟨h1, h2, h3, h4⟩ := h
      exact MX_pure hp h1 h2 h3 (MX_of_VM hm hw r _ _ h4)
    · split at h
      · split at h
        · rename_i safe s' av hp
          obtain ⟨h1, h2, h3, h4⟩ := h
          exact MX_mem hp h1 h2 (fun hg => ⟨(h3 hg).1, MX_of_VM hm hw r _ _ (h3 hg).2⟩) (fun hg => MX_of_VM hm hw r _ _ (h4 hg))
        · exact h
      · exact h

/-- The walk comes to such a region: n operations that yield the same in any order. -/
theorem VM_start (hm : P.follows .mixedOrders = true) {id : Nat} {l : List Oper} {S : List Fr} {s : St} (n : Nat) (hn : hasNews P l = true) (hB : mixB l.toArray n = true) (hw : wfS S) (h : VM P K S l n l s) : VQ P K id l S s true :=
  VQ_mix hm n hn hB (MX_of_VM hm hw l n s h)
/-- The walk of such a region comes to a call. -/
theorem VM_callI (hm : P.follows .mixedOrders = true) {S : List Fr} {all r : List Oper} {n : Nat} {d : Option Tmp} {ty : TypeId} {ps : String} {af : Array Edge} {g : Option (Nat × Bool)} {s : St} {fo : Operand} {args : List Operand} {ts : Array TypeId}
    {f : FuncId} {cap xs : List AV} {v : Value} (hc : s.G all g = true → Gives P f xs v) (hG : s.G all g = true → s.ev fo = (true, .fn f cap) ∧ evsP s args ∧ fitsL ((evs s args ++ cap).map (roV s.h 4)) xs) (hg : s.gOk all g) (hd : dstN s d) (hw : wfS S)
    (h : VM P K S all (n - 1) r (s.putO d (s.G all g) (.v v))) : MX P K S all n (⟨d, .call ⟨.value fo, ⟨args⟩, ts⟩, ty, ps, af, g⟩ :: r) s :=
  MX_call hc hG hg hd (MX_of_VM hm hw _ _ _ h)
/-- The walk of such a region comes to a call that hands back new chunks. -/
theorem VM_callRI (hm : P.follows .mixedOrders = true) {S : List Fr} {all r : List Oper} {d : Option Tmp} {ty : TypeId} {ps : String} {af : Array Edge} {g : Option (Nat × Bool)} {s : St} {fo : Operand} {args : List Operand} {ts : Array TypeId}
    {f : FuncId} {cap xs : List AV} {av : AV} {h : Heap} {n : Nat} (hc : Reads P f xs av h n) (hG : s.G all g = true ∧ s.ev fo = (true, .fn f cap) ∧ evsP s args ∧ fitsL ((evs s args ++ cap).map (roV s.h 4)) xs ∧ av.noR ∧ noRH h ∧ keysLt s.nk s.h) (hg : s.gOk all g) (hd : dstN s d) (hw : wfS S)
    (hr : VM P K S all 0 r (St.putO ⟨s.t, shH s.nk h s.h, s.nk + n, s.N⟩ d true (av.sh s.nk))) : MX P K S all 0 (⟨d, .call ⟨.value fo, ⟨args⟩, ts⟩, ty, ps, af, g⟩ :: r) s :=
  MX_callR hc hG hg hd (MX_of_VM hm hw _ _ _ hr)

section
variable (s : St) (S : List Fr) (n : Nat) (all r : List Oper) (d : Option Tmp) (ty : TypeId) (ps : String) (af : Array Edge) (g : Option (Nat × Bool))
theorem VM_ops (o : Oper) : VM P K S all n (o :: r) s = (match pureOp P s o.op with
    | some (safe, av) => s.gOk all o.guard ∧ dstN s o.dst ∧ (s.G all o.guard = true → safe) ∧ VM P K S all (n - 1) r (s.putO o.dst (s.G all o.guard) av)
    | none => match n with
      | 0 => match memOp P s o.op with
        | some (safe, s', av) => s.gOk all o.guard ∧ dstN s o.dst ∧ (s.G all o.guard = true → safe ∧ VM P K S all 0 r (s'.putO o.dst true av)) ∧ (s.G all o.guard = false → VM P K S all 0 r (s.putO o.dst false .bad))
        | none => MX P K S all 0 (o :: r) s
      | n + 1 => MX P K S all (n + 1) (o :: r) s) := by rw [VM.eq_def]
theorem VM_nil : VM P K S all n [] s = V P K S s := by unfold VM; rfl
theorem VM_call (fo : Operand) (args : List Operand) (ts : Array TypeId) : VM P K S all n (⟨d, .call ⟨.value fo, ⟨args⟩, ts⟩, ty, ps, af, g⟩ :: r) s = MX P K S all n (⟨d, .call ⟨.value fo, ⟨args⟩, ts⟩, ty, ps, af, g⟩ :: r) s := by
  unfold VM; cases n <;> rfl
theorem VM_move (x : Operand) : VM P K S all n (⟨d, .move x, ty, ps, af, g⟩ :: r) s = (s.gOk all g ∧ dstN s d ∧ (s.G all g = true → (s.ev x).1 = true) ∧ VM P K S all (n - 1) r (s.putO d (s.G all g) ((s.ev x).2))) := by rw [VM_ops]; rfl
theorem VM_assign (x : Operand) : VM P K S all n (⟨d, .assign x, ty, ps, af, g⟩ :: r) s = (s.gOk all g ∧ dstN s d ∧ (s.G all g = true → (s.ev x).1 = true) ∧ VM P K S all (n - 1) r (s.putO d (s.G all g) ((s.ev x).2))) := by rw [VM_ops]; rfl
theorem VM_pick (c a b : Operand) : VM P K S all n (⟨d, .pick c a b, ty, ps, af, g⟩ :: r) s = (s.gOk all g ∧ dstN s d ∧ (s.G all g = true → pickP (s.ev c) (s.ev a) (s.ev b)) ∧ VM P K S all (n - 1) r (s.putO d (s.G all g) (pickAV (s.ev c).2 (s.ev a).2 (s.ev b).2))) := by rw [VM_ops]; rfl
theorem VM_bin (op : BinOp) (t t3 : TypeId) (x y : Operand) : VM P K S all n (⟨d, .binOp op t x y t3, ty, ps, af, g⟩ :: r) s = (s.gOk all g ∧ dstN s d ∧ (s.G all g = true → ((s.ev x).1 = true ∧ (s.ev y).1 = true) ∧ binP P t op (s.ev x).2 (s.ev y).2) ∧ VM P K S all (n - 1) r (s.putO d (s.G all g) (binAV op (s.ev x).2 (s.ev y).2))) := by rw [VM_ops]; rfl
theorem VM_un (op : UnOp) (t : TypeId) (x : Operand) : VM P K S all n (⟨d, .unOp op t x, ty, ps, af, g⟩ :: r) s = (s.gOk all g ∧ dstN s d ∧ (s.G all g = true → (s.ev x).1 = true ∧ unP op (s.ev x).2) ∧ VM P K S all (n - 1) r (s.putO d (s.G all g) (unAV op (s.ev x).2))) := by rw [VM_ops]; rfl
theorem VM_fieldAddr (t : TypeId) (x : Operand) (f : Nat) : VM P K S all n (⟨d, .fieldAddr t x f, ty, ps, af, g⟩ :: r) s = (s.gOk all g ∧ dstN s d ∧ (s.G all g = true → (s.ev x).1 = true ∧ (fldT P t f).isSome = true ∧ isPtrAV (s.ev x).2) ∧ VM P K S all (n - 1) r (s.putO d (s.G all g) (fldAV ((fldT P t f).getD 0) (s.ev x).2))) := by rw [VM_ops]; rfl
theorem VM_indexAddr (t : TypeId) (x i : Operand) : VM P K S all n (⟨d, .indexAddr t x i, ty, ps, af, g⟩ :: r) s = (s.gOk all g ∧ dstN s d ∧ (s.G all g = true → ((s.ev x).1 = true ∧ (s.ev i).1 = true) ∧ ixaP P t (s.ev x).2 (s.ev i).2) ∧ VM P K S all (n - 1) r (s.putO d (s.G all g) (ixaAV (s.ev x).2 (s.ev i).2.intV.toNat))) := by rw [VM_ops]; rfl
theorem VM_index (t : TypeId) (x i : Operand) : VM P K S all n (⟨d, .index t x i, ty, ps, af, g⟩ :: r) s = (s.gOk all g ∧ dstN s d ∧ (s.G all g = true → ((s.ev x).1 = true ∧ (s.ev i).1 = true) ∧ idxP P t (s.ev x).2 (s.ev i).2) ∧ VM P K S all (n - 1) r (s.putO d (s.G all g) (idxAV (s.ev x).2 (s.ev i).2))) := by rw [VM_ops]; rfl
theorem VM_load (t : TypeId) (x : Operand) : VM P K S all n (⟨d, .load t x, ty, ps, af, g⟩ :: r) s = (s.gOk all g ∧ dstN s d ∧ (s.G all g = true → (s.ev x).1 = true ∧ ((szT P t).isSome = true ∧ (P.underlying t).isSome = true) ∧ loadP P s.h t (s.ev x).2) ∧ VM P K S all (n - 1) r (s.putO d (s.G all g) (loadAV P s.h t (s.ev x).2))) := by rw [VM_ops]; rfl
theorem VM_slice (t : TypeId) (x : Operand) (lo hi : Option Operand) : VM P K S all n (⟨d, .slice t x lo hi none, ty, ps, af, g⟩ :: r) s = (s.gOk all g ∧ dstN s d ∧ (s.G all g = true → (s.ev x).1 = true ∧ optP s lo ∧ optP s hi ∧ cutP P t (s.ev x).2 (optV s 0 lo) (optV s (lenAV (s.ev x).2) hi)) ∧ VM P K S all (n - 1) r (s.putO d (s.G all g) (cutAV (s.ev x).2 (optV s 0 lo).toNat (optV s (lenAV (s.ev x).2) hi).toNat))) := by rw [VM_ops]; rfl
theorem VM_extract (x : Operand) (i : Nat) : VM P K S all n (⟨d, .extract x i, ty, ps, af, g⟩ :: r) s = (s.gOk all g ∧ dstN s d ∧ (s.G all g = true → (s.ev x).1 = true ∧ extP i (s.ev x).2) ∧ VM P K S all (n - 1) r (s.putO d (s.G all g) (extAV i (s.ev x).2))) := by rw [VM_ops]; rfl
theorem VM_field (t : TypeId) (x : Operand) (f : Nat) : VM P K S all n (⟨d, .field t x f, ty, ps, af, g⟩ :: r) s = (s.gOk all g ∧ dstN s d ∧ (s.G all g = true → (s.ev x).1 = true ∧ fieldP P t f (s.ev x).2) ∧ VM P K S all (n - 1) r (s.putO d (s.G all g) (fieldAV P t f (s.ev x).2))) := by rw [VM_ops]; rfl
theorem VM_nilCheck (x : Operand) : VM P K S all n (⟨d, .nilCheck x, ty, ps, af, g⟩ :: r) s = (s.gOk all g ∧ dstN s d ∧ (s.G all g = true → (s.ev x).1 = true ∧ isPtrAV (s.ev x).2) ∧ VM P K S all (n - 1) r (s.putO d (s.G all g) ((s.ev x).2))) := by rw [VM_ops]; rfl
theorem VM_len (x : Operand) (t : TypeId) : VM P K S all n (⟨d, .call ⟨.builtin .len, ⟨[x]⟩, ⟨[t]⟩⟩, ty, ps, af, g⟩ :: r) s = (s.gOk all g ∧ dstN s d ∧ (s.G all g = true → (s.ev x).1 = true ∧ lenP P t (s.ev x).2) ∧ VM P K S all (n - 1) r (s.putO d (s.G all g) (.v (.int .i64 (lenAV (s.ev x).2))))) := by rw [VM_ops]; rfl
theorem VM_min (x y : Operand) (ts : Array TypeId) : VM P K S all n (⟨d, .call ⟨.builtin .min, ⟨[x, y]⟩, ts⟩, ty, ps, af, g⟩ :: r) s = (s.gOk all g ∧ dstN s d ∧ (s.G all g = true → ((s.ev x).1 = true ∧ (s.ev y).1 = true) ∧ int2P (s.ev x).2 (s.ev y).2) ∧ VM P K S all (n - 1) r (s.putO d (s.G all g) (mmAV false (s.ev x).2 (s.ev y).2))) := by rw [VM_ops]; rfl
theorem VM_max (x y : Operand) (ts : Array TypeId) : VM P K S all n (⟨d, .call ⟨.builtin .max, ⟨[x, y]⟩, ts⟩, ty, ps, af, g⟩ :: r) s = (s.gOk all g ∧ dstN s d ∧ (s.G all g = true → ((s.ev x).1 = true ∧ (s.ev y).1 = true) ∧ int2P (s.ev x).2 (s.ev y).2) ∧ VM P K S all (n - 1) r (s.putO d (s.G all g) (mmAV true (s.ev x).2 (s.ev y).2))) := by rw [VM_ops]; rfl
theorem VM_makeFunc (f : FuncId) (cs : List Operand) : VM P K S all n (⟨d, .makeFunc (.func f) ⟨[]⟩ ⟨cs⟩, ty, ps, af, g⟩ :: r) s = (s.gOk all g ∧ dstN s d ∧ (s.G all g = true → evsP s cs) ∧ VM P K S all (n - 1) r (s.putO d (s.G all g) (.fn f (evs s cs)))) := by rw [VM_ops]; rfl
theorem VM_build (t : TypeId) (pp : List (Nat × Operand)) : VM P K S all n (⟨d, .build t ⟨pp⟩, ty, ps, af, g⟩ :: r) s = (s.gOk all g ∧ dstN s d ∧ (s.G all g = true → ((plT P t).isSome = true ∧ (zeroT P t).isSome = true) ∧ buildP s ((plT P t).getD []) (zcells P t).length pp) ∧ VM P K S all (n - 1) r (s.putO d (s.G all g) (.agg (buildL s ((plT P t).getD []) ((zcells P t).map .v) pp)))) := by rw [VM_ops]; rfl
theorem VM_box (e : TypeId) (x : Operand) : VM P K S all 0 (⟨d, .box e x, ty, ps, af, g⟩ :: r) s = (s.gOk all g ∧ dstN s d ∧ (s.G all g = true → ((s.ev x).1 = true ∧ cellsP (s.ev x).2) ∧ VM P K S all 0 r (((s.newk (.box e (boxCells (s.ev x).2))) : St).putO d true (.ptr s.nk 0 0 0))) ∧ (s.G all g = false → VM P K S all 0 r (s.putO d false .bad))) := by rw [VM_ops]; rfl
theorem VM_alloc (e : TypeId) : VM P K S all 0 (⟨d, .alloc e, ty, ps, af, g⟩ :: r) s = (s.gOk all g ∧ dstN s d ∧ (s.G all g = true → ((zeroT P e).isSome = true) ∧ VM P K S all 0 r (((s.newk (.box e ((zcells P e).map .v))) : St).putO d true (.ptr s.nk 0 0 0))) ∧ (s.G all g = false → VM P K S all 0 r (s.putO d false .bad))) := by rw [VM_ops]; rfl
theorem VM_store (t : TypeId) (p x : Operand) (hb : nestS s.h (s.ev p).2 (s.ev x).2 = false) : VM P K S all 0 (⟨d, .store t p x, ty, ps, af, g⟩ :: r) s = (s.gOk all g ∧ dstN s d ∧ (s.G all g = true → (((s.ev p).1 = true ∧ (s.ev x).1 = true) ∧ storeP P s.h t (s.ev p).2 (s.ev x).2) ∧ VM P K S all 0 r ((((⟨s.t, storeH s.h (s.ev p).2 (s.ev x).2, s.nk, s.N⟩ : St)) : St).putO d true (.bad))) ∧ (s.G all g = false → VM P K S all 0 r (s.putO d false .bad))) := by rw [VM_ops]; simp only [pureOp, memOp, newOp, hb, Bool.false_eq_true, if_false]
theorem VM_append (x y : Operand) (t t2 : TypeId) (hb : nestA s.h (s.ev y).2 = false) : VM P K S all 0 (⟨d, .call ⟨.builtin .append, ⟨[x, y]⟩, ⟨[t, t2]⟩⟩, ty, ps, af, g⟩ :: r) s = (s.gOk all g ∧ dstN s d ∧ (s.G all g = true → (((s.ev x).1 = true ∧ (s.ev y).1 = true) ∧ appP P t t2 s.h s.nk (s.ev x).2 (s.ev y).2) ∧ VM P K S all 0 r ((((appS P t s (s.ev x).2 (s.ev y).2).1) : St).putO d true ((appS P t s (s.ev x).2 (s.ev y).2).2))) ∧ (s.G all g = false → VM P K S all 0 r (s.putO d false .bad))) := by rw [VM_ops]; simp only [pureOp, memOp, newOp, hb, Bool.false_eq_true, if_false]
theorem VM_makeSlice (t : TypeId) (l c : Operand) : VM P K S all 0 (⟨d, .makeSlice t l c, ty, ps, af, g⟩ :: r) s = (s.gOk all g ∧ dstN s d ∧ (s.G all g = true → (((s.ev l).1 = true ∧ (s.ev l).2.intP ∧ (s.ev c).1 = true ∧ (s.ev c).2.intP) ∧ ((slT P t).isSome = true ∧ (((slT P t).bind fun p => zeroT P p.1).isSome = true) ∧ (zcells P (((slT P t).getD (0, 0)).1)).length = ((slT P t).getD (0, 0)).2 ∧ 0 < ((slT P t).getD (0, 0)).2) ∧
      0 ≤ (s.ev l).2.intV ∧ (s.ev l).2.intV ≤ (s.ev c).2.intV ∧ (s.ev c).2.intV ≤ 1099511627776 ∧ ((P.info? (((slT P t).getD (0, 0)).1)).map (·.bytes)).getD 1000 ≤ 256) ∧ VM P K S all 0 r (((s.newk (.row ((slT P t).getD (0, 0)).1 ((slT P t).getD (0, 0)).2 (List.replicate (s.ev l).2.intV.toNat ((zcells P (((slT P t).getD (0, 0)).1)).map .v)))) : St).putO d true (.sl s.nk ((slT P t).getD (0, 0)).2 0 (s.ev l).2.intV.toNat))) ∧ (s.G all g = false → VM P K S all 0 r (s.putO d false .bad))) := by rw [VM_ops]; rfl
theorem VM_buildSlice (t : TypeId) (c : Nat) (ps' : List (Nat × Operand)) : VM P K S all 0 (⟨d, .buildSlice t c ⟨ps'⟩, ty, ps, af, g⟩ :: r) s = (s.gOk all g ∧ dstN s d ∧ (s.G all g = true → ((slT P t).isSome = true ∧ 0 < ((slT P t).getD (0, 0)).2 ∧ ((slT P t).bind fun p => zeroT P p.1).isSome = true ∧ (zcells P (((slT P t).getD (0, 0)).1)).length = ((slT P t).getD (0, 0)).2 ∧ ps'.length = c ∧ c * ((slT P t).getD (0, 0)).2 ≤ 16777216 ∧ partsOk s ((slT P t).getD (0, 0)).2 0 ps') ∧ VM P K S all 0 r (((s.newk (litChunk ((slT P t).getD (0, 0)).1 ((slT P t).getD (0, 0)).2 (partCells s ps'))) : St).putO d true ((.sl s.nk ((slT P t).getD (0, 0)).2 0 c)))) ∧ (s.G all g = false → VM P K S all 0 r (s.putO d false .bad))) := by rw [VM_ops]; rfl
theorem VM_convert (src dst : TypeId) (x : Operand) (hb : (strT P src && bytesT P dst) = false) : VM P K S all n (⟨d, .convert src dst x, ty, ps, af, g⟩ :: r) s = (s.gOk all g ∧ dstN s d ∧ (s.G all g = true → (s.ev x).1 = true ∧ convP P s.h src dst (s.ev x).2) ∧ VM P K S all (n - 1) r (s.putO d (s.G all g) (convAV P s.h src dst (s.ev x).2))) := by
  rw [VM_ops]
  have : ¬ (strT P src = true ∧ bytesT P dst = true) := by simpa using hb
  simp only [pureOp, if_neg this]
theorem VM_bytes (src dst : TypeId) (x : Operand) (hb : (strT P src && bytesT P dst) = true) : VM P K S all 0 (⟨d, .convert src dst x, ty, ps, af, g⟩ :: r) s = (s.gOk all g ∧ dstN s d ∧ (s.G all g = true → ((s.ev x).1 = true ∧ (s.ev x).2.strP) ∧ VM P K S all 0 r (((s.newk (.row ((slT P dst).getD (0, 0)).1 1 ((s.ev x).2.strV.map byteRow))) : St).putO d true (.sl s.nk 1 0 (s.ev x).2.strV.length))) ∧ (s.G all g = false → VM P K S all 0 r (s.putO d false .bad))) := by
  rw [VM_ops]
  have : strT P src = true ∧ bytesT P dst = true := by simpa using hb
  simp only [pureOp, memOp, newOp, if_pos this]
end
/-- The rules of that walk (to be used with an arrow that points down). -/
def ctlM {P : Program} {K : St → Prop} := And.intro (And.intro (And.intro (And.intro (@VM_nil P K) (And.intro (@VM_call P K) (@VM_move P K))) (And.intro (@VM_assign P K) (And.intro (@VM_pick P K) (@VM_bin P K)))) (And.intro (And.intro (@VM_un P K) (And.intro (@VM_fieldAddr P K) (@VM_indexAddr P K))) (And.intro (And.intro (@VM_index P K) (@VM_load P K)) (And.intro (@VM_slice P K) (@VM_extract P K))))) (And.intro (And.intro (And.intro (@VM_field P K) (And.intro (@VM_nilCheck P K) (@VM_len P K))) (And.intro (@VM_min P K) (And.intro (@VM_max P K) (@VM_makeFunc P K)))) (And.intro (And.intro (@VM_build P K) (And.intro (@VM_box P K) (@VM_alloc P K))) (And.intro (And.intro (@VM_store P K) (@VM_append P K)) (And.intro (@VM_makeSlice P K) (@VM_buildSlice P K)))))

end Go.Eng

/- The engine, part T: the rules for append. -/
set_option linter.unusedVariables false
set_option linter.unusedSimpArgs false
namespace Go.Eng
open Go

section
variable (P : Program) (t t2 : TypeId) (s : St) (y : AV) (k k' E E' lo n i j l q nk : Nat) (h : Heap) (e : TypeId) (rows : List (List Cell)) (xs : List AV)
theorem litChunk_e (rs : List (List AV)) : litChunk e E rs = if rs.all (·.all isV) = true then .row e E (rs.map (·.map toCell)) else .box e rs.flatten := rfl
def appC (P : Program) (s : St) (y : AV) (k E n : Nat) : Option Chunk → St × AV
  | some (.row e _ rows) => (⟨killT k s.t, setH (killH k s.h) k (.row e E (rows.take n ++ (rowsAV s.h y).getD [])), s.nk, s.N⟩, .sl k E 0 (n + lenAV y))
  | _ => (s, .bad)
theorem appS_sl : appS P t s (.sl k E lo n) y = appC P s y k E n (look? s.h k) := by
  simp only [appS]; cases look? s.h k with
  | none => rfl
  | some c => cases c <;> rfl
theorem appS_nil : appS P t s (.v (.slice none 0 0)) y = (s.newk (.row (appT P t) (appE P t) ((rowsAV s.h y).getD [])), .sl s.nk (appE P t) 0 (lenAV y)) := rfl
theorem appC_row (tt : List (Nat × Bool × AV)) (N : Nat) : appC P ⟨tt, h, nk, N⟩ y k E n (some (.row e E' rows)) = (⟨killT k tt, setH (killH k h) k (.row e E (rows.take n ++ (rowsAV h y).getD [])), nk, N⟩, .sl k E 0 (n + lenAV y)) := rfl
def appCP (P : Program) (t : TypeId) (n : Nat) (E : Nat) : Option Chunk → Prop
  | some (.row e E' rows) => e = appT P t ∧ E' = E ∧ n ≤ rows.length
  | _ => False
def appQ (P : Program) (t t2 : TypeId) (h : Heap) (x y : AV) : Prop :=
  (slT P t).isSome = true ∧ t2 = t ∧ 0 < appE P t ∧ (zeroT P (appT P t)).isSome = true ∧ (zcells P (appT P t)).length = appE P t ∧ ((P.info? (appT P t)).map (·.bytes)).getD 1000 ≤ 256 ∧
  (rowsAV h y).isSome = true ∧ lenAV y = ((rowsAV h y).getD []).length ∧ eszAV (appE P t) y ∧ flatRows ((rowsAV h y).getD []) ∧ lenAV x + lenAV y ≤ 549755813888
theorem appQ_e (x : AV) : appQ P t t2 h x y = ((slT P t).isSome = true ∧ t2 = t ∧ 0 < appE P t ∧ (zeroT P (appT P t)).isSome = true ∧ (zcells P (appT P t)).length = appE P t ∧ ((P.info? (appT P t)).map (·.bytes)).getD 1000 ≤ 256 ∧
  (rowsAV h y).isSome = true ∧ lenAV y = ((rowsAV h y).getD []).length ∧ eszAV (appE P t) y ∧ flatRows ((rowsAV h y).getD []) ∧ lenAV x + lenAV y ≤ 549755813888) := rfl
theorem appP_nil : appP P t t2 h nk (.v (.slice none 0 0)) y = appQ P t t2 h (.v (.slice none 0 0)) y := by
  unfold appP appQ; simp only [and_true]
theorem appP_sl : appP P t t2 h nk (.sl k E lo n) y = (appQ P t t2 h (.sl k E lo n) y ∧ lo = 0 ∧ E = appE P t ∧ k < nk ∧ appCP P t n E (look? h k)) := by
  simp only [appP, appQ, and_assoc]
  cases look? h k with
  | none => rfl
  | some c => cases c <;> rfl
theorem appCP_row : appCP P t n E (some (.row e E' rows)) = (e = appT P t ∧ E' = E ∧ n ≤ rows.length) := rfl
theorem kill_sl : kill k (.sl k' E lo n) = if k' = k then .bad else .sl k' E lo n := by simp only [kill]
theorem kill_ptr : kill k (.ptr k' E i j) = if k' = k then .bad else .ptr k' E i j := by simp only [kill]
theorem kill_agg : kill k (.agg xs) = .agg (kills k xs) := by simp only [kill]
theorem kill_tup : kill k (.tup xs) = .tup (kills k xs) := by simp only [kill]
theorem kill_fn (f) : kill k (.fn f xs) = .fn f (kills k xs) := by simp only [kill]
theorem kill_rq : kill k (.rq xs j) = .rq (kills k xs) j := by simp only [kill]
theorem kill_v (x) : kill k (.v x) = .v x := by simp only [kill]
theorem kill_rd : kill k (.rd E rows) = .rd E rows := by simp only [kill]
theorem kill_rp (row) : kill k (.rp row j) = .rp row j := by simp only [kill]
theorem kill_sub : kill k (.sub k' i j E lo n) = .sub k' i j E lo n := by simp only [kill]
theorem kill_subp : kill k (.subp k' i j E l q) = .subp k' i j E l q := by simp only [kill]
theorem kill_bad : kill k .bad = .bad := by simp only [kill]
theorem kills_nil : kills k [] = [] := by simp only [kills]
theorem kills_cons (x : AV) : kills k (x :: xs) = kill k x :: kills k xs := by simp only [kills]
theorem killC_box (cells) : killC k (.box e cells) = .box e (kills k cells) := rfl
theorem killC_row : killC k (.row e E rows) = .row e E rows := rfl
theorem killT_nil : killT k [] = [] := rfl
theorem killT_cons (d c x r) : killT k ((d, c, x) :: r) = (d, c, kill k x) :: killT k r := rfl
theorem killH_nil : killH k [] = [] := rfl
theorem killH_cons (c r) : killH k ((k', c) :: r) = (k', killC k c) :: killH k r := rfl
theorem flatRows_nil : flatRows [] = True := by simp [flatRows]
theorem flatRows_cons (r : List Cell) : flatRows (r :: rows) = (flatRow r ∧ flatRows rows) := by simp [flatRows]
theorem flatRow_nil : flatRow [] = True := by simp only [flatRow]
theorem flatRow_int (r : List Cell) (kk : IntKind) (z : Int) : flatRow (.v (.int kk z) :: r) = flatRow r := by simp [flatRow, Value.oneCell']
theorem flatRow_bool (r : List Cell) (b : Bool) : flatRow (.v (.bool b) :: r) = flatRow r := by simp [flatRow, Value.oneCell']
theorem flatRow_str (r : List Cell) (b : List UInt8) : flatRow (.v (str b) :: r) = flatRow r := by simp [flatRow, Value.oneCell', str]
theorem flat_bytes (b : List UInt8) : flatRows (b.map byteRow) = True := by simp [flatRows, byteRow, flatRow, Value.oneCell']
theorem flat_ints (b : List Int) : flatRows (b.map intRow) = True := by simp [flatRows, intRow, flatRow, Value.oneCell']
theorem flat_strs (b : List (List UInt8)) : flatRows (b.map strRow) = True := by simp [flatRows, strRow, flatRow, Value.oneCell', str]
theorem flat_bools (b : List Bool) : flatRows (b.map boolRow) = True := eq_true fun r hr => by
  obtain ⟨c, _, rfl⟩ := List.mem_map.1 hr
  simp [boolRow, flatRow, Value.oneCell']
variable (S : List Fr) (all r : List Oper) (d : Option Tmp) (ty : TypeId) (ps : String) (af : Array Edge) (g : Option (Nat × Bool)) (K : St → Prop)
theorem V_copy (x y : Operand) : V P K (.ops false all (⟨d, .call ⟨.builtin .copy, ⟨[x, y]⟩, ⟨[t, t2]⟩⟩, ty, ps, af, g⟩ :: r) :: S) s = (s.gOk all g ∧ dstN s d ∧ (s.G all g = true → (((s.ev x).1 = true ∧ (s.ev y).1 = true) ∧ copyP P t t2 s.h (s.ev x).2 (s.ev y).2) ∧ V P K (.ops false all r :: S) ((⟨s.t, copyH s.h (s.ev x).2 (s.ev y).2, s.nk, s.N⟩ : St).putO d true (.v (.int .i64 (copyN s.h (s.ev x).2 (s.ev y).2))))) ∧ (s.G all g = false → V P K (.ops false all r :: S) (s.putO d false .bad))) := by rw [V_ops]; simp only [pureOp, memOp, newOp, Bool.false_eq_true, if_false]
theorem VM_copy (x y : Operand) : VM P K S all 0 (⟨d, .call ⟨.builtin .copy, ⟨[x, y]⟩, ⟨[t, t2]⟩⟩, ty, ps, af, g⟩ :: r) s = (s.gOk all g ∧ dstN s d ∧ (s.G all g = true → (((s.ev x).1 = true ∧ (s.ev y).1 = true) ∧ copyP P t t2 s.h (s.ev x).2 (s.ev y).2) ∧ VM P K S all 0 r ((⟨s.t, copyH s.h (s.ev x).2 (s.ev y).2, s.nk, s.N⟩ : St).putO d true (.v (.int .i64 (copyN s.h (s.ev x).2 (s.ev y).2))))) ∧ (s.G all g = false → VM P K S all 0 r (s.putO d false .bad))) := by rw [VM_ops]; simp only [pureOp, memOp, newOp, Bool.false_eq_true, if_false]
theorem copyN_e (x : AV) : copyN h x y = min (lenAV x) ((rowsAV h y).getD []).length := rfl
def copyHc (h : Heap) (k E lo n : Nat) (y : AV) : Option Chunk → Heap
  | some c => setH h k (copyC E lo n ((rowsAV h y).getD []) c)
  | none => h
theorem copyH_sl : copyH h (.sl k E lo n) y = copyHc h k E lo n y (look? h k) := by
  simp only [copyH]; cases look? h k <;> rfl
theorem copyHc_some (c : Chunk) : copyHc h k E lo n y (some c) = setH h k (copyC E lo n ((rowsAV h y).getD []) c) := rfl
theorem copyC_row (ys : List (List Cell)) : copyC E lo n ys (.row e E' rows) = .row e E' (rows.take lo ++ (ys.take n ++ rows.drop (lo + min n ys.length))) := rfl
theorem copyQ_row : copyQ E lo n (.row e E' rows) = (E' = E ∧ flatRows rows ∧ lo + n ≤ rows.length) := rfl
def copyD (E lo n : Nat) : Option Chunk → Prop
  | some c => copyQ E lo n c
  | none => False
theorem copyD_some (c : Chunk) : copyD E lo n (some c) = copyQ E lo n c := rfl
theorem copyP_sl : copyP P t t2 h (.sl k E lo n) y = ((slT P t).isSome = true ∧ t2 = t ∧ 0 < appE P t ∧ (rowsAV h y).isSome = true ∧ lenAV y = ((rowsAV h y).getD []).length ∧ eszAV (appE P t) y ∧ flatRows ((rowsAV h y).getD []) ∧ E = appE P t ∧ copyD E lo n (look? h k)) := by
  simp only [copyP]; cases look? h k <;> rfl
end

/-- The rules for append. -/
def app := And.intro (And.intro (And.intro (And.intro (And.intro @litChunk_e @appS_sl) (And.intro @appS_nil (And.intro @appC_row @appQ_e))) (And.intro (And.intro @appP_nil (And.intro @appP_sl @appCP_row)) (And.intro @kill_sl (And.intro @kill_ptr @kill_agg)))) (And.intro (And.intro (And.intro @kill_tup (And.intro @kill_fn @kill_rq)) (And.intro @kill_v (And.intro @kill_rd @kill_rp))) (And.intro (And.intro @kill_sub (And.intro @kill_subp @kill_bad)) (And.intro @kills_nil (And.intro @kills_cons @killC_box))))) (And.intro (And.intro (And.intro (And.intro @killC_row (And.intro @killT_nil @killT_cons)) (And.intro @killH_nil (And.intro @killH_cons @flatRows_nil))) (And.intro (And.intro @flatRows_cons (And.intro @flatRow_nil @flatRow_int)) (And.intro @flatRow_bool (And.intro @flatRow_str @flat_bytes)))) (And.intro (And.intro (And.intro @flat_ints (And.intro @flat_strs @flat_bools)) (And.intro @V_copy (And.intro @VM_copy @copyN_e))) (And.intro (And.intro @copyH_sl (And.intro @copyHc_some @copyC_row)) (And.intro @copyQ_row (And.intro @copyD_some @copyP_sl)))))

end Go.Eng
