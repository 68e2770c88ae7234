/- FnExactPackFS: for every file system as argument the law hands back true, and the argument reads behind the call as it read before. No condition. -/
import Derived.Test.YtobnbajakenbeaaTxt2
set_option linter.all false
set_option linter.defProp false
/- Contracts: the law's own functions for inodes and file systems: sizes, copies, equality.  -/
set_option linter.all false
set_option maxRecDepth 10000
set_option maxHeartbeats 2000000
namespace Go.Proofs.Ytobnbajakenbeaa
open Go Go.Eng

structure FS where
  tick : Int
  quotas : List Quota
  inodes : List Inode
  data : List (List UInt8)
  deriving DecidableEq, Inhabited
def fsAV (f : FS) : AV := .agg [I f.tick, .rd 2 (f.quotas.map quotaRow), .rd 10 (f.inodes.map inodeRow), .rd 1 (f.data.map strRow)]

/-! ### sizes -/
def wtN (n : Inode) : Nat := n.blocks.length + (n.acl.length + n.dflt.length)
def sumN (l : List Inode) : Nat := (l.map wtN).sum
def wtNs (l : List Inode) : Nat := l.length + sumN l
def wtFS (f : FS) : Nat := f.quotas.length + (wtNs f.inodes + wtS f.data)
/-- The lengths are such as a machine can have. -/
def Inode.big (n : Inode) : Prop := n.blocks.length ≤ 9223372036854775807 ∧ n.acl.length ≤ 9223372036854775807 ∧ n.dflt.length ≤ 9223372036854775807
theorem sumN_step {l : List Inode} {i : Nat} (h : i < l.length) : sumN (l.drop i) = wtN (l.getD i default) + sumN (l.drop (i + 1)) := by
  rw [drop_getD default h]; rfl
theorem sumN_end {l : List Inode} {i : Nat} (h : ¬ i < l.length) : sumN (l.drop i) = 0 := by rw [drop_end _ _ h]; rfl
theorem spend_ge {left : Int} {n : Nat} (h0 : 0 ≤ left) (h : ¬ spend left n < 0) : ¬ left < n := by rw [spend_neg h0] at h; exact h
theorem l_szInode (n : Inode) (left : Int) (h0 : 0 ≤ left) (h1 : left ≤ 1048576) (hb : n.big) : Gives Go.Proofs.Try.prog 45 [inodeAV n, I left] (.int .i64 (spend left (wtN n))) := by
  refine gives_of_V mixed Go.Proofs.Try.call45 Go.Proofs.Try.func45 rfl (by rw [Go.Proofs.Try.ntmps45]; simp) ?_
  simp (maxSteps := 2000000) only [↓ctl, evl, val, valP, own, app, wrt, tys, Try.ntmps45, Try.results45, ↓V_convert, ↓V_bytes, stdl, cond_true, cond_false, Nat.reduceEqDiff, Nat.reduceAdd, Nat.reduceMul, Nat.reduceSub, Nat.reduceLT, Int.reduceEq, Int.reduceLT, Int.reduceLE, Int.reduceNeg, Nat.reduceLeDiff, if_true, if_false, ↓reduceIte, forall_const, implies_true, reduceCtorEq, forall_eq_or_imp, forall_eq, ne_eq, inodeAV]
  refine V_callF mixed (cap := []) (fun _ => l_szIntS n.blocks left h0 h1 hb.1) (by simp (maxSteps := 2000000) (contextual := true) only [↓ctl, evl, val, valP, own, app, wrt, tys, Try.ntmps45, Try.results45, ↓V_convert, ↓V_bytes, stdl, cond_true, cond_false, Nat.reduceEqDiff, Nat.reduceAdd, Nat.reduceMul, Nat.reduceSub, Nat.reduceLT, Int.reduceEq, Int.reduceLT, Int.reduceLE, Int.reduceNeg, Nat.reduceLeDiff, if_true, if_false, ↓reduceIte, forall_const, implies_true, reduceCtorEq, forall_eq_or_imp, forall_eq, ne_eq]) (by simp (maxSteps := 2000000) (contextual := true) only [↓ctl, evl, val, valP, own, app, wrt, tys, Try.ntmps45, Try.results45, ↓V_convert, ↓V_bytes, stdl, cond_true, cond_false, Nat.reduceEqDiff, Nat.reduceAdd, Nat.reduceMul, Nat.reduceSub, Nat.reduceLT, Int.reduceEq, Int.reduceLT, Int.reduceLE, Int.reduceNeg, Nat.reduceLeDiff, if_true, if_false, ↓reduceIte, forall_const, implies_true, reduceCtorEq, forall_eq_or_imp, forall_eq, ne_eq]) (by simp (maxSteps := 2000000) (contextual := true) only [↓ctl, evl, val, valP, own, app, wrt, tys, Try.ntmps45, Try.results45, ↓V_convert, ↓V_bytes, stdl, cond_true, cond_false, Nat.reduceEqDiff, Nat.reduceAdd, Nat.reduceMul, Nat.reduceSub, Nat.reduceLT, Int.reduceEq, Int.reduceLT, Int.reduceLE, Int.reduceNeg, Nat.reduceLeDiff, if_true, if_false, ↓reduceIte, forall_const, implies_true, reduceCtorEq, forall_eq_or_imp, forall_eq, ne_eq]) trivial ?_
  simp (maxSteps := 2000000) only [↓ctl, evl, val, valP, own, app, wrt, tys, Try.ntmps45, Try.results45, ↓V_convert, ↓V_bytes, stdl, cond_true, cond_false, Nat.reduceEqDiff, Nat.reduceAdd, Nat.reduceMul, Nat.reduceSub, Nat.reduceLT, Int.reduceEq, Int.reduceLT, Int.reduceLE, Int.reduceNeg, Nat.reduceLeDiff, if_true, if_false, ↓reduceIte, forall_const, implies_true, reduceCtorEq, forall_eq_or_imp, forall_eq, ne_eq]
  refine ⟨fun h => ?_, fun h => ?_⟩
  · rw [spend_neg h0] at h
    unfold wtN; rw [spend_out h0 h]
  have g1 := spend_ge h0 h
  have g2 := spend_ok g1
  refine V_callF mixed (cap := []) (fun _ => l_szAclEntryS n.acl (spend left n.blocks.length) (by rw [g2]; omega) (by rw [g2]; omega) hb.2.1) (by simp (maxSteps := 2000000) (contextual := true) only [↓ctl, evl, val, valP, own, app, wrt, tys, Try.ntmps45, Try.results45, ↓V_convert, ↓V_bytes, stdl, cond_true, cond_false, Nat.reduceEqDiff, Nat.reduceAdd, Nat.reduceMul, Nat.reduceSub, Nat.reduceLT, Int.reduceEq, Int.reduceLT, Int.reduceLE, Int.reduceNeg, Nat.reduceLeDiff, if_true, if_false, ↓reduceIte, forall_const, implies_true, reduceCtorEq, forall_eq_or_imp, forall_eq, ne_eq]) (by simp (maxSteps := 2000000) (contextual := true) only [↓ctl, evl, val, valP, own, app, wrt, tys, Try.ntmps45, Try.results45, ↓V_convert, ↓V_bytes, stdl, cond_true, cond_false, Nat.reduceEqDiff, Nat.reduceAdd, Nat.reduceMul, Nat.reduceSub, Nat.reduceLT, Int.reduceEq, Int.reduceLT, Int.reduceLE, Int.reduceNeg, Nat.reduceLeDiff, if_true, if_false, ↓reduceIte, forall_const, implies_true, reduceCtorEq, forall_eq_or_imp, forall_eq, ne_eq]) (by simp (maxSteps := 2000000) (contextual := true) only [↓ctl, evl, val, valP, own, app, wrt, tys, Try.ntmps45, Try.results45, ↓V_convert, ↓V_bytes, stdl, cond_true, cond_false, Nat.reduceEqDiff, Nat.reduceAdd, Nat.reduceMul, Nat.reduceSub, Nat.reduceLT, Int.reduceEq, Int.reduceLT, Int.reduceLE, Int.reduceNeg, Nat.reduceLeDiff, if_true, if_false, ↓reduceIte, forall_const, implies_true, reduceCtorEq, forall_eq_or_imp, forall_eq, ne_eq]) trivial ?_
  simp (maxSteps := 2000000) only [↓ctl, evl, val, valP, own, app, wrt, tys, Try.ntmps45, Try.results45, ↓V_convert, ↓V_bytes, stdl, cond_true, cond_false, Nat.reduceEqDiff, Nat.reduceAdd, Nat.reduceMul, Nat.reduceSub, Nat.reduceLT, Int.reduceEq, Int.reduceLT, Int.reduceLE, Int.reduceNeg, Nat.reduceLeDiff, if_true, if_false, ↓reduceIte, forall_const, implies_true, reduceCtorEq, forall_eq_or_imp, forall_eq, ne_eq]
  refine ⟨fun h => ?_, fun h => ?_⟩
  · rw [spend_neg (by rw [g2]; omega), g2] at h
    unfold wtN; rw [← Nat.add_assoc, spend_out h0 (by omega)]
  have g3 := spend_ge (by rw [g2]; omega) h
  rw [g2] at g3
  have g4 := spend_ok g3
  refine V_callF mixed (cap := []) (fun _ => l_szAclEntryS n.dflt (spend (spend left n.blocks.length) n.acl.length) (by rw [g2, g4]; omega) (by rw [g2, g4]; omega) hb.2.2) (by simp (maxSteps := 2000000) (contextual := true) only [↓ctl, evl, val, valP, own, app, wrt, tys, Try.ntmps45, Try.results45, ↓V_convert, ↓V_bytes, stdl, cond_true, cond_false, Nat.reduceEqDiff, Nat.reduceAdd, Nat.reduceMul, Nat.reduceSub, Nat.reduceLT, Int.reduceEq, Int.reduceLT, Int.reduceLE, Int.reduceNeg, Nat.reduceLeDiff, if_true, if_false, ↓reduceIte, forall_const, implies_true, reduceCtorEq, forall_eq_or_imp, forall_eq, ne_eq]) (by simp (maxSteps := 2000000) (contextual := true) only [↓ctl, evl, val, valP, own, app, wrt, tys, Try.ntmps45, Try.results45, ↓V_convert, ↓V_bytes, stdl, cond_true, cond_false, Nat.reduceEqDiff, Nat.reduceAdd, Nat.reduceMul, Nat.reduceSub, Nat.reduceLT, Int.reduceEq, Int.reduceLT, Int.reduceLE, Int.reduceNeg, Nat.reduceLeDiff, if_true, if_false, ↓reduceIte, forall_const, implies_true, reduceCtorEq, forall_eq_or_imp, forall_eq, ne_eq]) (by simp (maxSteps := 2000000) (contextual := true) only [↓ctl, evl, val, valP, own, app, wrt, tys, Try.ntmps45, Try.results45, ↓V_convert, ↓V_bytes, stdl, cond_true, cond_false, Nat.reduceEqDiff, Nat.reduceAdd, Nat.reduceMul, Nat.reduceSub, Nat.reduceLT, Int.reduceEq, Int.reduceLT, Int.reduceLE, Int.reduceNeg, Nat.reduceLeDiff, if_true, if_false, ↓reduceIte, forall_const, implies_true, reduceCtorEq, forall_eq_or_imp, forall_eq, ne_eq]) trivial ?_
  simp (maxSteps := 2000000) only [↓ctl, evl, val, valP, own, app, wrt, tys, Try.ntmps45, Try.results45, ↓V_convert, ↓V_bytes, stdl, cond_true, cond_false, Nat.reduceEqDiff, Nat.reduceAdd, Nat.reduceMul, Nat.reduceSub, Nat.reduceLT, Int.reduceEq, Int.reduceLT, Int.reduceLE, Int.reduceNeg, Nat.reduceLeDiff, if_true, if_false, ↓reduceIte, forall_const, implies_true, reduceCtorEq, forall_eq_or_imp, forall_eq, ne_eq]
  have e : spend (spend (spend left n.blocks.length) n.acl.length) n.dflt.length = spend left (wtN n) := by
    rw [g2, g4, spend_add (a := n.acl.length) (by omega), spend_add (a := n.blocks.length) (by omega)]; rfl
  refine ⟨fun h => ?_, fun h => ?_⟩
  · rw [← e]; unfold spend at h ⊢; split at h <;> omega
  · rw [← e]
theorem l_szInodeS (a : List Inode) (left : Int) (h0 : 0 ≤ left) (h1 : left ≤ 1048576) (ha : a.length ≤ 9223372036854775807) (hs : ∀ s ∈ a, s.big) : Gives Go.Proofs.Try.prog 20 [.rd 10 (a.map inodeRow), I left] (.int .i64 (spend left (wtNs a))) := by
  refine gives_of_V mixed Go.Proofs.Try.call20 Go.Proofs.Try.func20 rfl (by rw [Go.Proofs.Try.ntmps20]; simp) ?_
  have e1 : IntKind.i64.wrap (left - (a.length : Int)) = left - a.length := wrap_id (by omega) (by omega)
  simp (maxSteps := 2000000) only [↓ctl, evl, val, valP, own, app, wrt, tys, Try.ntmps20, Try.results20, ↓V_convert, ↓V_bytes, stdl, cond_true, cond_false, Nat.reduceEqDiff, Nat.reduceAdd, Nat.reduceMul, Nat.reduceSub, Nat.reduceLT, Int.reduceEq, Int.reduceLT, Int.reduceLE, Int.reduceNeg, Nat.reduceLeDiff, if_true, if_false, ↓reduceIte, forall_const, implies_true, reduceCtorEq, forall_eq_or_imp, forall_eq, ne_eq, e1]
  refine ⟨fun h => ?_, fun h => ?_⟩
  · unfold wtNs; rw [spend_out h0 (by omega)]
  refine V_loopI mixed (ι := {p : Nat × Int // p.1 ≤ a.length ∧ 0 ≤ p.2 ∧ p.2 ≤ 1048576 ∧ spend left (wtNs a) = spend p.2 (sumN (a.drop p.1))}) (fun p => ⟨[(0, true, .rd 10 (a.map inodeRow)), (1, true, I p.1.2), (5, true, I p.1.1)], [], 0, 27⟩) (fun p => a.length - p.1.1) ⟨(0, left - a.length), by refine ⟨by omega, by omega, by omega, ?_⟩; unfold wtNs; rw [← spend_add (by omega)]; rfl⟩ ?_ ?_ ?_
  · refine weakI ?_
    simp (maxSteps := 2000000) only [↓ctl, evl, val, valP, own, app, wrt, tys, Try.ntmps20, Try.results20, ↓V_convert, ↓V_bytes, stdl, cond_true, cond_false, Nat.reduceEqDiff, Nat.reduceAdd, Nat.reduceMul, Nat.reduceSub, Nat.reduceLT, Int.reduceEq, Int.reduceLT, Int.reduceLE, Int.reduceNeg, Nat.reduceLeDiff, if_true, if_false, ↓reduceIte, forall_const, implies_true, reduceCtorEq, forall_eq_or_imp, forall_eq, ne_eq]
    rfl
  · trivial
  · rintro ⟨⟨i, r⟩, hi, hr0, hr1, hx⟩
    simp only at hi hr0 hr1 hx
    by_cases hlt : i < a.length
    · have hl := hs _ (show a.getD i default ∈ a by rw [getD_get a i _ hlt]; exact List.getElem_mem hlt)
      simp (maxSteps := 2000000) only [↓ctl, evl, val, valP, own, app, wrt, tys, Try.ntmps20, Try.results20, ↓V_convert, ↓V_bytes, stdl, cond_true, cond_false, Nat.reduceEqDiff, Nat.reduceAdd, Nat.reduceMul, Nat.reduceSub, Nat.reduceLT, Int.reduceEq, Int.reduceLT, Int.reduceLE, Int.reduceNeg, Nat.reduceLeDiff, if_true, if_false, ↓reduceIte, forall_const, implies_true, reduceCtorEq, forall_eq_or_imp, forall_eq, ne_eq, hlt, inodeRow_e, ints_map, acls_map]
      refine V_callF mixed (cap := []) (fun _ => l_szInode (a.getD i default) r hr0 hr1 hl) (by simp (maxSteps := 2000000) only [↓ctl, evl, val, valP, own, app, wrt, tys, Try.ntmps20, Try.results20, ↓V_convert, ↓V_bytes, stdl, cond_true, cond_false, Nat.reduceEqDiff, Nat.reduceAdd, Nat.reduceMul, Nat.reduceSub, Nat.reduceLT, Int.reduceEq, Int.reduceLT, Int.reduceLE, Int.reduceNeg, Nat.reduceLeDiff, if_true, if_false, ↓reduceIte, forall_const, implies_true, reduceCtorEq, forall_eq_or_imp, forall_eq, ne_eq, inodeAV, ints_map, acls_map]) (by simp (maxSteps := 2000000) only [↓ctl, evl, val, valP, own, app, wrt, tys, Try.ntmps20, Try.results20, ↓V_convert, ↓V_bytes, stdl, cond_true, cond_false, Nat.reduceEqDiff, Nat.reduceAdd, Nat.reduceMul, Nat.reduceSub, Nat.reduceLT, Int.reduceEq, Int.reduceLT, Int.reduceLE, Int.reduceNeg, Nat.reduceLeDiff, if_true, if_false, ↓reduceIte, forall_const, implies_true, reduceCtorEq, forall_eq_or_imp, forall_eq, ne_eq]) (by simp (maxSteps := 2000000) only [↓ctl, evl, val, valP, own, app, wrt, tys, Try.ntmps20, Try.results20, ↓V_convert, ↓V_bytes, stdl, cond_true, cond_false, Nat.reduceEqDiff, Nat.reduceAdd, Nat.reduceMul, Nat.reduceSub, Nat.reduceLT, Int.reduceEq, Int.reduceLT, Int.reduceLE, Int.reduceNeg, Nat.reduceLeDiff, if_true, if_false, ↓reduceIte, forall_const, implies_true, reduceCtorEq, forall_eq_or_imp, forall_eq, ne_eq]) trivial ?_
      simp (maxSteps := 2000000) only [↓ctl, evl, val, valP, own, app, wrt, tys, Try.ntmps20, Try.results20, ↓V_convert, ↓V_bytes, stdl, cond_true, cond_false, Nat.reduceEqDiff, Nat.reduceAdd, Nat.reduceMul, Nat.reduceSub, Nat.reduceLT, Int.reduceEq, Int.reduceLT, Int.reduceLE, Int.reduceNeg, Nat.reduceLeDiff, if_true, if_false, ↓reduceIte, forall_const, implies_true, reduceCtorEq, forall_eq_or_imp, forall_eq, ne_eq]
      refine ⟨fun h => ?_, fun h => V_backI ⟨(i + 1, spend r (wtN (a.getD i default))), ?_⟩ (by show _ - (i + 1) < _; omega) (weakI ?_)⟩
      · rw [spend_neg hr0] at h
        rw [hx, sumN_step hlt, spend_out hr0 (by omega)]
      · have g1 := spend_ge hr0 h
        have g2 := spend_ok g1
        refine ⟨by simp only; omega, by simp only; rw [g2]; omega, by simp only; rw [g2]; omega, ?_⟩
        simp only
        rw [hx, sumN_step hlt, g2, spend_add (by omega)]
      · simp (maxSteps := 2000000) only [↓ctl, evl, val, valP, own, app, wrt, tys, Try.ntmps20, Try.results20, ↓V_convert, ↓V_bytes, stdl, cond_true, cond_false, Nat.reduceEqDiff, Nat.reduceAdd, Nat.reduceMul, Nat.reduceSub, Nat.reduceLT, Int.reduceEq, Int.reduceLT, Int.reduceLE, Int.reduceNeg, Nat.reduceLeDiff, if_true, if_false, ↓reduceIte, forall_const, implies_true, reduceCtorEq, forall_eq_or_imp, forall_eq, ne_eq]
        rw [wrap_id (by omega) (by omega)]
        rfl
    · simp (maxSteps := 2000000) only [↓ctl, evl, val, valP, own, app, wrt, tys, Try.ntmps20, Try.results20, ↓V_convert, ↓V_bytes, stdl, cond_true, cond_false, Nat.reduceEqDiff, Nat.reduceAdd, Nat.reduceMul, Nat.reduceSub, Nat.reduceLT, Int.reduceEq, Int.reduceLT, Int.reduceLE, Int.reduceNeg, Nat.reduceLeDiff, if_true, if_false, ↓reduceIte, forall_const, implies_true, reduceCtorEq, forall_eq_or_imp, forall_eq, ne_eq, hlt]
      rw [hx, sumN_end hlt, spend_zero hr0]
def FS.big (f : FS) : Prop := f.quotas.length ≤ 9223372036854775807 ∧ f.inodes.length ≤ 9223372036854775807 ∧ f.data.length ≤ 9223372036854775807 ∧ (∀ n ∈ f.inodes, n.big) ∧ ∀ s ∈ f.data, s.length ≤ 9223372036854775807
theorem l_szFS (f : FS) (left : Int) (h0 : 0 ≤ left) (h1 : left ≤ 1048576) (hb : f.big) : Gives Go.Proofs.Try.prog 5 [fsAV f, I left] (.int .i64 (spend left (wtFS f))) := by
  refine gives_of_V mixed Go.Proofs.Try.call5 Go.Proofs.Try.func5 rfl (by rw [Go.Proofs.Try.ntmps5]; simp) ?_
  simp (maxSteps := 2000000) only [↓ctl, evl, val, valP, own, app, wrt, tys, Try.ntmps5, Try.results5, ↓V_convert, ↓V_bytes, stdl, cond_true, cond_false, Nat.reduceEqDiff, Nat.reduceAdd, Nat.reduceMul, Nat.reduceSub, Nat.reduceLT, Int.reduceEq, Int.reduceLT, Int.reduceLE, Int.reduceNeg, Nat.reduceLeDiff, if_true, if_false, ↓reduceIte, forall_const, implies_true, reduceCtorEq, forall_eq_or_imp, forall_eq, ne_eq, fsAV]
  refine V_callF mixed (cap := []) (fun _ => l_szQuotaS f.quotas left h0 h1 hb.1) (by simp (maxSteps := 2000000) (contextual := true) only [↓ctl, evl, val, valP, own, app, wrt, tys, Try.ntmps5, Try.results5, ↓V_convert, ↓V_bytes, stdl, cond_true, cond_false, Nat.reduceEqDiff, Nat.reduceAdd, Nat.reduceMul, Nat.reduceSub, Nat.reduceLT, Int.reduceEq, Int.reduceLT, Int.reduceLE, Int.reduceNeg, Nat.reduceLeDiff, if_true, if_false, ↓reduceIte, forall_const, implies_true, reduceCtorEq, forall_eq_or_imp, forall_eq, ne_eq]) (by simp (maxSteps := 2000000) (contextual := true) only [↓ctl, evl, val, valP, own, app, wrt, tys, Try.ntmps5, Try.results5, ↓V_convert, ↓V_bytes, stdl, cond_true, cond_false, Nat.reduceEqDiff, Nat.reduceAdd, Nat.reduceMul, Nat.reduceSub, Nat.reduceLT, Int.reduceEq, Int.reduceLT, Int.reduceLE, Int.reduceNeg, Nat.reduceLeDiff, if_true, if_false, ↓reduceIte, forall_const, implies_true, reduceCtorEq, forall_eq_or_imp, forall_eq, ne_eq]) (by simp (maxSteps := 2000000) (contextual := true) only [↓ctl, evl, val, valP, own, app, wrt, tys, Try.ntmps5, Try.results5, ↓V_convert, ↓V_bytes, stdl, cond_true, cond_false, Nat.reduceEqDiff, Nat.reduceAdd, Nat.reduceMul, Nat.reduceSub, Nat.reduceLT, Int.reduceEq, Int.reduceLT, Int.reduceLE, Int.reduceNeg, Nat.reduceLeDiff, if_true, if_false, ↓reduceIte, forall_const, implies_true, reduceCtorEq, forall_eq_or_imp, forall_eq, ne_eq]) trivial ?_
  simp (maxSteps := 2000000) only [↓ctl, evl, val, valP, own, app, wrt, tys, Try.ntmps5, Try.results5, ↓V_convert, ↓V_bytes, stdl, cond_true, cond_false, Nat.reduceEqDiff, Nat.reduceAdd, Nat.reduceMul, Nat.reduceSub, Nat.reduceLT, Int.reduceEq, Int.reduceLT, Int.reduceLE, Int.reduceNeg, Nat.reduceLeDiff, if_true, if_false, ↓reduceIte, forall_const, implies_true, reduceCtorEq, forall_eq_or_imp, forall_eq, ne_eq]
  refine ⟨fun h => ?_, fun h => ?_⟩
  · rw [spend_neg h0] at h
    unfold wtFS; rw [spend_out h0 h]
  have g1 := spend_ge h0 h
  have g2 := spend_ok g1
  refine V_callF mixed (cap := []) (fun _ => l_szInodeS f.inodes (spend left f.quotas.length) (by rw [g2]; omega) (by rw [g2]; omega) hb.2.1 hb.2.2.2.1) (by simp (maxSteps := 2000000) (contextual := true) only [↓ctl, evl, val, valP, own, app, wrt, tys, Try.ntmps5, Try.results5, ↓V_convert, ↓V_bytes, stdl, cond_true, cond_false, Nat.reduceEqDiff, Nat.reduceAdd, Nat.reduceMul, Nat.reduceSub, Nat.reduceLT, Int.reduceEq, Int.reduceLT, Int.reduceLE, Int.reduceNeg, Nat.reduceLeDiff, if_true, if_false, ↓reduceIte, forall_const, implies_true, reduceCtorEq, forall_eq_or_imp, forall_eq, ne_eq]) (by simp (maxSteps := 2000000) (contextual := true) only [↓ctl, evl, val, valP, own, app, wrt, tys, Try.ntmps5, Try.results5, ↓V_convert, ↓V_bytes, stdl, cond_true, cond_false, Nat.reduceEqDiff, Nat.reduceAdd, Nat.reduceMul, Nat.reduceSub, Nat.reduceLT, Int.reduceEq, Int.reduceLT, Int.reduceLE, Int.reduceNeg, Nat.reduceLeDiff, if_true, if_false, ↓reduceIte, forall_const, implies_true, reduceCtorEq, forall_eq_or_imp, forall_eq, ne_eq]) (by simp (maxSteps := 2000000) (contextual := true) only [↓ctl, evl, val, valP, own, app, wrt, tys, Try.ntmps5, Try.results5, ↓V_convert, ↓V_bytes, stdl, cond_true, cond_false, Nat.reduceEqDiff, Nat.reduceAdd, Nat.reduceMul, Nat.reduceSub, Nat.reduceLT, Int.reduceEq, Int.reduceLT, Int.reduceLE, Int.reduceNeg, Nat.reduceLeDiff, if_true, if_false, ↓reduceIte, forall_const, implies_true, reduceCtorEq, forall_eq_or_imp, forall_eq, ne_eq]) trivial ?_
  simp (maxSteps := 2000000) only [↓ctl, evl, val, valP, own, app, wrt, tys, Try.ntmps5, Try.results5, ↓V_convert, ↓V_bytes, stdl, cond_true, cond_false, Nat.reduceEqDiff, Nat.reduceAdd, Nat.reduceMul, Nat.reduceSub, Nat.reduceLT, Int.reduceEq, Int.reduceLT, Int.reduceLE, Int.reduceNeg, Nat.reduceLeDiff, if_true, if_false, ↓reduceIte, forall_const, implies_true, reduceCtorEq, forall_eq_or_imp, forall_eq, ne_eq]
  refine ⟨fun h => ?_, fun h => ?_⟩
  · rw [spend_neg (by rw [g2]; omega), g2] at h
    unfold wtFS; rw [← Nat.add_assoc, spend_out h0 (by omega)]
  have g3 := spend_ge (by rw [g2]; omega) h
  rw [g2] at g3
  have g4 := spend_ok g3
  refine V_callF mixed (cap := []) (fun _ => l_szStringS f.data (spend (spend left f.quotas.length) (wtNs f.inodes)) (by rw [g2, g4]; omega) (by rw [g2, g4]; omega) hb.2.2.1 hb.2.2.2.2) (by simp (maxSteps := 2000000) (contextual := true) only [↓ctl, evl, val, valP, own, app, wrt, tys, Try.ntmps5, Try.results5, ↓V_convert, ↓V_bytes, stdl, cond_true, cond_false, Nat.reduceEqDiff, Nat.reduceAdd, Nat.reduceMul, Nat.reduceSub, Nat.reduceLT, Int.reduceEq, Int.reduceLT, Int.reduceLE, Int.reduceNeg, Nat.reduceLeDiff, if_true, if_false, ↓reduceIte, forall_const, implies_true, reduceCtorEq, forall_eq_or_imp, forall_eq, ne_eq]) (by simp (maxSteps := 2000000) (contextual := true) only [↓ctl, evl, val, valP, own, app, wrt, tys, Try.ntmps5, Try.results5, ↓V_convert, ↓V_bytes, stdl, cond_true, cond_false, Nat.reduceEqDiff, Nat.reduceAdd, Nat.reduceMul, Nat.reduceSub, Nat.reduceLT, Int.reduceEq, Int.reduceLT, Int.reduceLE, Int.reduceNeg, Nat.reduceLeDiff, if_true, if_false, ↓reduceIte, forall_const, implies_true, reduceCtorEq, forall_eq_or_imp, forall_eq, ne_eq]) (by simp (maxSteps := 2000000) (contextual := true) only [↓ctl, evl, val, valP, own, app, wrt, tys, Try.ntmps5, Try.results5, ↓V_convert, ↓V_bytes, stdl, cond_true, cond_false, Nat.reduceEqDiff, Nat.reduceAdd, Nat.reduceMul, Nat.reduceSub, Nat.reduceLT, Int.reduceEq, Int.reduceLT, Int.reduceLE, Int.reduceNeg, Nat.reduceLeDiff, if_true, if_false, ↓reduceIte, forall_const, implies_true, reduceCtorEq, forall_eq_or_imp, forall_eq, ne_eq]) trivial ?_
  simp (maxSteps := 2000000) only [↓ctl, evl, val, valP, own, app, wrt, tys, Try.ntmps5, Try.results5, ↓V_convert, ↓V_bytes, stdl, cond_true, cond_false, Nat.reduceEqDiff, Nat.reduceAdd, Nat.reduceMul, Nat.reduceSub, Nat.reduceLT, Int.reduceEq, Int.reduceLT, Int.reduceLE, Int.reduceNeg, Nat.reduceLeDiff, if_true, if_false, ↓reduceIte, forall_const, implies_true, reduceCtorEq, forall_eq_or_imp, forall_eq, ne_eq]
  have e : spend (spend (spend left f.quotas.length) (wtNs f.inodes)) (wtS f.data) = spend left (wtFS f) := by
    rw [g2, g4, spend_add (a := wtNs f.inodes) (by omega), spend_add (a := f.quotas.length) (by omega)]; rfl
  refine ⟨fun h => ?_, fun h => ?_⟩
  · rw [← e]; unfold spend at h ⊢; split at h <;> omega
  · rw [← e]

/-! ### copies -/
/-- The lengths are within the law's bound. -/
def Inode.sml (n : Inode) : Prop := n.blocks.length ≤ 1048576 ∧ n.acl.length ≤ 1048576 ∧ n.dflt.length ≤ 1048576
theorem l_toInode (n : Inode) (hb : n.sml) : Reads Go.Proofs.Try.prog 54 [inodeAV n] (.agg [I n.kind, I n.mode, I n.uid, I n.gid, I n.links, I n.size, I n.tick, .sl 3 1 0 n.blocks.length, .sl 4 3 0 n.acl.length, .sl 5 3 0 n.dflt.length])
    [(3, .row 3 1 (n.blocks.map intRow)), (4, .row 111 3 (n.acl.map aclRow)), (5, .row 111 3 (n.dflt.map aclRow))] 6 := by
  refine reads_of_V mixed Go.Proofs.Try.call54 Go.Proofs.Try.func54 rfl (by rw [Go.Proofs.Try.ntmps54]; simp) ?_
  simp (maxSteps := 2000000) only [↓ctl, evl, val, valP, own, app, wrt, tys, Try.ntmps54, Try.results54, ↓V_convert, ↓V_bytes, stdl, cond_true, cond_false, Nat.reduceEqDiff, Nat.reduceAdd, Nat.reduceMul, Nat.reduceSub, Nat.reduceLT, Int.reduceEq, Int.reduceLT, Int.reduceLE, Int.reduceNeg, Nat.reduceLeDiff, if_true, if_false, ↓reduceIte, forall_const, implies_true, reduceCtorEq, forall_eq_or_imp, forall_eq, ne_eq, inodeAV]
  refine V_callR mixed (cap := []) (l_toIntS n.blocks hb.1) (by simp (maxSteps := 2000000) only [↓ctl, evl, val, valP, own, app, wrt, tys, Try.ntmps54, Try.results54, ↓V_convert, ↓V_bytes, stdl, cond_true, cond_false, Nat.reduceEqDiff, Nat.reduceAdd, Nat.reduceMul, Nat.reduceSub, Nat.reduceLT, Int.reduceEq, Int.reduceLT, Int.reduceLE, Int.reduceNeg, Nat.reduceLeDiff, if_true, if_false, ↓reduceIte, forall_const, implies_true, reduceCtorEq, forall_eq_or_imp, forall_eq, ne_eq]) (by simp (maxSteps := 2000000) only [↓ctl, evl, val, valP, own, app, wrt, tys, Try.ntmps54, Try.results54, ↓V_convert, ↓V_bytes, stdl, cond_true, cond_false, Nat.reduceEqDiff, Nat.reduceAdd, Nat.reduceMul, Nat.reduceSub, Nat.reduceLT, Int.reduceEq, Int.reduceLT, Int.reduceLE, Int.reduceNeg, Nat.reduceLeDiff, if_true, if_false, ↓reduceIte, forall_const, implies_true, reduceCtorEq, forall_eq_or_imp, forall_eq, ne_eq]) (by simp (maxSteps := 2000000) only [↓ctl, evl, val, valP, own, app, wrt, tys, Try.ntmps54, Try.results54, ↓V_convert, ↓V_bytes, stdl, cond_true, cond_false, Nat.reduceEqDiff, Nat.reduceAdd, Nat.reduceMul, Nat.reduceSub, Nat.reduceLT, Int.reduceEq, Int.reduceLT, Int.reduceLE, Int.reduceNeg, Nat.reduceLeDiff, if_true, if_false, ↓reduceIte, forall_const, implies_true, reduceCtorEq, forall_eq_or_imp, forall_eq, ne_eq]) trivial ?_
  simp (maxSteps := 2000000) only [↓ctl, evl, val, valP, own, app, wrt, tys, Try.ntmps54, Try.results54, ↓V_convert, ↓V_bytes, stdl, cond_true, cond_false, Nat.reduceEqDiff, Nat.reduceAdd, Nat.reduceMul, Nat.reduceSub, Nat.reduceLT, Int.reduceEq, Int.reduceLT, Int.reduceLE, Int.reduceNeg, Nat.reduceLeDiff, if_true, if_false, ↓reduceIte, forall_const, implies_true, reduceCtorEq, forall_eq_or_imp, forall_eq, ne_eq]
  refine V_callR mixed (cap := []) (l_toAclEntryS n.acl hb.2.1) (by simp (maxSteps := 2000000) only [↓ctl, evl, val, valP, own, app, wrt, tys, Try.ntmps54, Try.results54, ↓V_convert, ↓V_bytes, stdl, cond_true, cond_false, Nat.reduceEqDiff, Nat.reduceAdd, Nat.reduceMul, Nat.reduceSub, Nat.reduceLT, Int.reduceEq, Int.reduceLT, Int.reduceLE, Int.reduceNeg, Nat.reduceLeDiff, if_true, if_false, ↓reduceIte, forall_const, implies_true, reduceCtorEq, forall_eq_or_imp, forall_eq, ne_eq]) (by simp (maxSteps := 2000000) only [↓ctl, evl, val, valP, own, app, wrt, tys, Try.ntmps54, Try.results54, ↓V_convert, ↓V_bytes, stdl, cond_true, cond_false, Nat.reduceEqDiff, Nat.reduceAdd, Nat.reduceMul, Nat.reduceSub, Nat.reduceLT, Int.reduceEq, Int.reduceLT, Int.reduceLE, Int.reduceNeg, Nat.reduceLeDiff, if_true, if_false, ↓reduceIte, forall_const, implies_true, reduceCtorEq, forall_eq_or_imp, forall_eq, ne_eq]) (by simp (maxSteps := 2000000) only [↓ctl, evl, val, valP, own, app, wrt, tys, Try.ntmps54, Try.results54, ↓V_convert, ↓V_bytes, stdl, cond_true, cond_false, Nat.reduceEqDiff, Nat.reduceAdd, Nat.reduceMul, Nat.reduceSub, Nat.reduceLT, Int.reduceEq, Int.reduceLT, Int.reduceLE, Int.reduceNeg, Nat.reduceLeDiff, if_true, if_false, ↓reduceIte, forall_const, implies_true, reduceCtorEq, forall_eq_or_imp, forall_eq, ne_eq]) trivial ?_
  simp (maxSteps := 2000000) only [↓ctl, evl, val, valP, own, app, wrt, tys, Try.ntmps54, Try.results54, ↓V_convert, ↓V_bytes, stdl, cond_true, cond_false, Nat.reduceEqDiff, Nat.reduceAdd, Nat.reduceMul, Nat.reduceSub, Nat.reduceLT, Int.reduceEq, Int.reduceLT, Int.reduceLE, Int.reduceNeg, Nat.reduceLeDiff, if_true, if_false, ↓reduceIte, forall_const, implies_true, reduceCtorEq, forall_eq_or_imp, forall_eq, ne_eq]
  refine V_callR mixed (cap := []) (l_toAclEntryS n.dflt hb.2.2) (by simp (maxSteps := 2000000) only [↓ctl, evl, val, valP, own, app, wrt, tys, Try.ntmps54, Try.results54, ↓V_convert, ↓V_bytes, stdl, cond_true, cond_false, Nat.reduceEqDiff, Nat.reduceAdd, Nat.reduceMul, Nat.reduceSub, Nat.reduceLT, Int.reduceEq, Int.reduceLT, Int.reduceLE, Int.reduceNeg, Nat.reduceLeDiff, if_true, if_false, ↓reduceIte, forall_const, implies_true, reduceCtorEq, forall_eq_or_imp, forall_eq, ne_eq]) (by simp (maxSteps := 2000000) only [↓ctl, evl, val, valP, own, app, wrt, tys, Try.ntmps54, Try.results54, ↓V_convert, ↓V_bytes, stdl, cond_true, cond_false, Nat.reduceEqDiff, Nat.reduceAdd, Nat.reduceMul, Nat.reduceSub, Nat.reduceLT, Int.reduceEq, Int.reduceLT, Int.reduceLE, Int.reduceNeg, Nat.reduceLeDiff, if_true, if_false, ↓reduceIte, forall_const, implies_true, reduceCtorEq, forall_eq_or_imp, forall_eq, ne_eq]) (by simp (maxSteps := 2000000) only [↓ctl, evl, val, valP, own, app, wrt, tys, Try.ntmps54, Try.results54, ↓V_convert, ↓V_bytes, stdl, cond_true, cond_false, Nat.reduceEqDiff, Nat.reduceAdd, Nat.reduceMul, Nat.reduceSub, Nat.reduceLT, Int.reduceEq, Int.reduceLT, Int.reduceLE, Int.reduceNeg, Nat.reduceLeDiff, if_true, if_false, ↓reduceIte, forall_const, implies_true, reduceCtorEq, forall_eq_or_imp, forall_eq, ne_eq]) trivial ?_
  simp (maxSteps := 2000000) only [↓ctl, evl, val, valP, own, app, wrt, tys, Try.ntmps54, Try.results54, ↓V_convert, ↓V_bytes, stdl, cond_true, cond_false, Nat.reduceEqDiff, Nat.reduceAdd, Nat.reduceMul, Nat.reduceSub, Nat.reduceLT, Int.reduceEq, Int.reduceLT, Int.reduceLE, Int.reduceNeg, Nat.reduceLeDiff, if_true, if_false, ↓reduceIte, forall_const, implies_true, reduceCtorEq, forall_eq_or_imp, forall_eq, ne_eq]
end Go.Proofs.Ytobnbajakenbeaa


/- Contracts: the law's own functions for inodes and file systems: copies, equality.  -/
set_option linter.all false
set_option maxRecDepth 10000
set_option maxHeartbeats 2000000
namespace Go.Proofs.Ytobnbajakenbeaa
open Go Go.Eng

/-- An inode whose slices are own rows. -/
def inoCells (n : Inode) (k1 k2 k3 : Nat) : List AV := [I n.kind, I n.mode, I n.uid, I n.gid, I n.links, I n.size, I n.tick, .sl k1 1 0 n.blocks.length, .sl k2 3 0 n.acl.length, .sl k3 3 0 n.dflt.length]
def zeroIno : List Cell := [.v (.int .i64 0), .v (.int .i64 0), .v (.int .i64 0), .v (.int .i64 0), .v (.int .i64 0), .v (.int .i64 0), .v (.int .i64 0), .v (.slice none 0 0), .v (.slice none 0 0), .v (.slice none 0 0)]
theorem l_toInodeS (a : List Inode) (ha : a.length ≤ 1048576) (hs : ∀ s ∈ a, s.sml) : Reads Go.Proofs.Try.prog 24 [.rd 10 (a.map inodeRow)] (.sl 0 10 0 a.length) [(0, .row 54 10 (a.map inodeRow))] 1 := by
  refine reads_of_V mixed Go.Proofs.Try.call24 Go.Proofs.Try.func24 rfl (by rw [Go.Proofs.Try.ntmps24]; simp) ?_
  have n1 : (0 : Int) ≤ a.length := by omega
  have n2 : (a.length : Int) ≤ 1099511627776 := by omega
  simp (maxSteps := 2000000) only [↓ctl, evl, val, valP, own, app, wrt, tys, Try.ntmps24, Try.results24, ↓V_convert, ↓V_bytes, stdl, cond_true, cond_false, Nat.reduceEqDiff, Nat.reduceAdd, Nat.reduceMul, Nat.reduceSub, Nat.reduceLT, Int.reduceEq, Int.reduceLT, Int.reduceLE, Int.reduceNeg, Nat.reduceLeDiff, if_true, if_false, ↓reduceIte, forall_const, implies_true, reduceCtorEq, forall_eq_or_imp, forall_eq, ne_eq, n1, n2]
  refine ⟨Nat.le_refl _, ?_⟩
  refine V_loopI mixed (ι := {i : Nat // i ≤ a.length}) (fun i => ⟨[(0, true, .rd 10 (a.map inodeRow)), (3, true, .sl 0 10 0 a.length), (4, true, I i.1)], [(0, .row 54 10 (fillR inodeRow zeroIno a i.1))], 1, 23⟩) (fun i => a.length - i.1)  ⟨0, by omega⟩ ?_ ?_ ?_
  · refine weakI ?_
    simp (maxSteps := 2000000) only [↓ctl, evl, val, valP, own, app, wrt, tys, Try.ntmps24, Try.results24, ↓V_convert, ↓V_bytes, stdl, cond_true, cond_false, Nat.reduceEqDiff, Nat.reduceAdd, Nat.reduceMul, Nat.reduceSub, Nat.reduceLT, Int.reduceEq, Int.reduceLT, Int.reduceLE, Int.reduceNeg, Nat.reduceLeDiff, if_true, if_false, ↓reduceIte, forall_const, implies_true, reduceCtorEq, forall_eq_or_imp, forall_eq, ne_eq]
    exact ⟨rfl, congrArg (Chunk.row _ _) (fillR_zero inodeRow zeroIno a)⟩
  · trivial
  · rintro ⟨i, hi⟩
    by_cases hlt : i < a.length
    · have g1 := fillR_length inodeRow zeroIno a i hi
      have g2 := fillR_getD inodeRow zeroIno a i hlt
      have g3 : zeroIno.length = 10 := rfl
      have hm := hs _ (show a.getD i default ∈ a by rw [getD_get a i _ hlt]; exact List.getElem_mem hlt)
      simp (maxSteps := 2000000) only [↓ctl, evl, val, valP, own, app, wrt, tys, Try.ntmps24, Try.results24, ↓V_convert, ↓V_bytes, stdl, cond_true, cond_false, Nat.reduceEqDiff, Nat.reduceAdd, Nat.reduceMul, Nat.reduceSub, Nat.reduceLT, Int.reduceEq, Int.reduceLT, Int.reduceLE, Int.reduceNeg, Nat.reduceLeDiff, if_true, if_false, ↓reduceIte, forall_const, implies_true, reduceCtorEq, forall_eq_or_imp, forall_eq, ne_eq, hlt, g1, g2, inodeRow_e, ints_map, acls_map]
      refine V_callR mixed (cap := []) (l_toInode (a.getD i default) hm) (by simp (maxSteps := 2000000) only [↓ctl, evl, val, valP, own, app, wrt, tys, Try.ntmps24, Try.results24, ↓V_convert, ↓V_bytes, stdl, cond_true, cond_false, Nat.reduceEqDiff, Nat.reduceAdd, Nat.reduceMul, Nat.reduceSub, Nat.reduceLT, Int.reduceEq, Int.reduceLT, Int.reduceLE, Int.reduceNeg, Nat.reduceLeDiff, if_true, if_false, ↓reduceIte, forall_const, implies_true, reduceCtorEq, forall_eq_or_imp, forall_eq, ne_eq, inodeAV, ints_map, acls_map]) (by simp (maxSteps := 2000000) only [↓ctl, evl, val, valP, own, app, wrt, tys, Try.ntmps24, Try.results24, ↓V_convert, ↓V_bytes, stdl, cond_true, cond_false, Nat.reduceEqDiff, Nat.reduceAdd, Nat.reduceMul, Nat.reduceSub, Nat.reduceLT, Int.reduceEq, Int.reduceLT, Int.reduceLE, Int.reduceNeg, Nat.reduceLeDiff, if_true, if_false, ↓reduceIte, forall_const, implies_true, reduceCtorEq, forall_eq_or_imp, forall_eq, ne_eq]) (by simp (maxSteps := 2000000) only [↓ctl, evl, val, valP, own, app, wrt, tys, Try.ntmps24, Try.results24, ↓V_convert, ↓V_bytes, stdl, cond_true, cond_false, Nat.reduceEqDiff, Nat.reduceAdd, Nat.reduceMul, Nat.reduceSub, Nat.reduceLT, Int.reduceEq, Int.reduceLT, Int.reduceLE, Int.reduceNeg, Nat.reduceLeDiff, if_true, if_false, ↓reduceIte, forall_const, implies_true, reduceCtorEq, forall_eq_or_imp, forall_eq, ne_eq]) trivial ?_
      simp (maxSteps := 2000000) only [↓ctl, evl, val, valP, own, app, wrt, tys, Try.ntmps24, Try.results24, ↓V_convert, ↓V_bytes, stdl, cond_true, cond_false, Nat.reduceEqDiff, Nat.reduceAdd, Nat.reduceMul, Nat.reduceSub, Nat.reduceLT, Int.reduceEq, Int.reduceLT, Int.reduceLE, Int.reduceNeg, Nat.reduceLeDiff, if_true, if_false, ↓reduceIte, forall_const, implies_true, reduceCtorEq, forall_eq_or_imp, forall_eq, ne_eq, hlt, g1, g2]
      refine V_storeN mixed (k := 0) (i := i) (e := 54) (E := 10) (cells := inoCells (a.getD i default) 4 5 6) (rows := fillR inodeRow zeroIno a i) (row' := inodeRow (a.getD i default)) (ks := [4, 5, 6]) (t' := [(0, true, .rd 10 (a.map inodeRow)), (3, true, .sl 0 10 0 a.length), (4, true, I i)]) (h' := []) (by simp (maxSteps := 2000000) only [↓ctl, evl, val, valP, own, app, wrt, tys, Try.ntmps24, Try.results24, ↓V_convert, ↓V_bytes, stdl, cond_true, cond_false, Nat.reduceEqDiff, Nat.reduceAdd, Nat.reduceMul, Nat.reduceSub, Nat.reduceLT, Int.reduceEq, Int.reduceLT, Int.reduceLE, Int.reduceNeg, Nat.reduceLeDiff, if_true, if_false, ↓reduceIte, forall_const, implies_true, reduceCtorEq, forall_eq_or_imp, forall_eq, ne_eq, g1, g2, g3]) (by simp (maxSteps := 2000000) only [↓ctl, evl, val, valP, own, app, wrt, tys, Try.ntmps24, Try.results24, ↓V_convert, ↓V_bytes, stdl, cond_true, cond_false, Nat.reduceEqDiff, Nat.reduceAdd, Nat.reduceMul, Nat.reduceSub, Nat.reduceLT, Int.reduceEq, Int.reduceLT, Int.reduceLE, Int.reduceNeg, Nat.reduceLeDiff, if_true, if_false, ↓reduceIte, forall_const, implies_true, reduceCtorEq, forall_eq_or_imp, forall_eq, ne_eq, g1, g2, g3, hlt, inoCells]) (by simp (maxSteps := 2000000) only [↓ctl, evl, val, valP, own, app, wrt, tys, Try.ntmps24, Try.results24, ↓V_convert, ↓V_bytes, stdl, cond_true, cond_false, Nat.reduceEqDiff, Nat.reduceAdd, Nat.reduceMul, Nat.reduceSub, Nat.reduceLT, Int.reduceEq, Int.reduceLT, Int.reduceLE, Int.reduceNeg, Nat.reduceLeDiff, if_true, if_false, ↓reduceIte, forall_const, implies_true, reduceCtorEq, forall_eq_or_imp, forall_eq, ne_eq, inodeRow_e, ints_map, acls_map, inoCells]) (by decide) trivial ?_
      simp (maxSteps := 2000000) only [↓ctl, evl, val, valP, own, app, wrt, tys, Try.ntmps24, Try.results24, ↓V_convert, ↓V_bytes, stdl, cond_true, cond_false, Nat.reduceEqDiff, Nat.reduceAdd, Nat.reduceMul, Nat.reduceSub, Nat.reduceLT, Int.reduceEq, Int.reduceLT, Int.reduceLE, Int.reduceNeg, Nat.reduceLeDiff, if_true, if_false, ↓reduceIte, forall_const, implies_true, reduceCtorEq, forall_eq_or_imp, forall_eq, ne_eq]
      refine V_backI ⟨i + 1, by omega⟩ (by show _ - (i + 1) < _; omega) (weakI ?_)
      simp (maxSteps := 2000000) only [↓ctl, evl, val, valP, own, app, wrt, tys, Try.ntmps24, Try.results24, ↓V_convert, ↓V_bytes, stdl, cond_true, cond_false, Nat.reduceEqDiff, Nat.reduceAdd, Nat.reduceMul, Nat.reduceSub, Nat.reduceLT, Int.reduceEq, Int.reduceLT, Int.reduceLE, Int.reduceNeg, Nat.reduceLeDiff, if_true, if_false, ↓reduceIte, forall_const, implies_true, reduceCtorEq, forall_eq_or_imp, forall_eq, ne_eq]
      rw [wrap_id (by omega) (by omega)]
      exact ⟨rfl, congrArg (Chunk.row _ _) (fillR_set default inodeRow _ a i hlt)⟩
    · simp (maxSteps := 2000000) only [↓ctl, evl, val, valP, own, app, wrt, tys, Try.ntmps24, Try.results24, ↓V_convert, ↓V_bytes, stdl, cond_true, cond_false, Nat.reduceEqDiff, Nat.reduceAdd, Nat.reduceMul, Nat.reduceSub, Nat.reduceLT, Int.reduceEq, Int.reduceLT, Int.reduceLE, Int.reduceNeg, Nat.reduceLeDiff, if_true, if_false, ↓reduceIte, forall_const, implies_true, reduceCtorEq, forall_eq_or_imp, forall_eq, ne_eq, hlt]
      rw [fillR_end _ _ _ _ hlt]
def FS.sml (f : FS) : Prop := f.quotas.length ≤ 1048576 ∧ f.inodes.length ≤ 1048576 ∧ f.data.length ≤ 1048576 ∧ (∀ n ∈ f.inodes, n.sml)
theorem l_toFS (f : FS) (hb : f.sml) : Reads Go.Proofs.Try.prog 7 [fsAV f] (.agg [I f.tick, .sl 3 2 0 f.quotas.length, .sl 4 10 0 f.inodes.length, .sl 5 1 0 f.data.length])
    [(3, .row 64 2 (f.quotas.map quotaRow)), (4, .row 54 10 (f.inodes.map inodeRow)), (5, .row 9 1 (f.data.map strRow))] 6 := by
  refine reads_of_V mixed Go.Proofs.Try.call7 Go.Proofs.Try.func7 rfl (by rw [Go.Proofs.Try.ntmps7]; simp) ?_
  simp (maxSteps := 2000000) only [↓ctl, evl, val, valP, own, app, wrt, tys, Try.ntmps7, Try.results7, ↓V_convert, ↓V_bytes, stdl, cond_true, cond_false, Nat.reduceEqDiff, Nat.reduceAdd, Nat.reduceMul, Nat.reduceSub, Nat.reduceLT, Int.reduceEq, Int.reduceLT, Int.reduceLE, Int.reduceNeg, Nat.reduceLeDiff, if_true, if_false, ↓reduceIte, forall_const, implies_true, reduceCtorEq, forall_eq_or_imp, forall_eq, ne_eq, fsAV]
  refine V_callR mixed (cap := []) (l_toQuotaS f.quotas hb.1) (by simp (maxSteps := 2000000) only [↓ctl, evl, val, valP, own, app, wrt, tys, Try.ntmps7, Try.results7, ↓V_convert, ↓V_bytes, stdl, cond_true, cond_false, Nat.reduceEqDiff, Nat.reduceAdd, Nat.reduceMul, Nat.reduceSub, Nat.reduceLT, Int.reduceEq, Int.reduceLT, Int.reduceLE, Int.reduceNeg, Nat.reduceLeDiff, if_true, if_false, ↓reduceIte, forall_const, implies_true, reduceCtorEq, forall_eq_or_imp, forall_eq, ne_eq]) (by simp (maxSteps := 2000000) only [↓ctl, evl, val, valP, own, app, wrt, tys, Try.ntmps7, Try.results7, ↓V_convert, ↓V_bytes, stdl, cond_true, cond_false, Nat.reduceEqDiff, Nat.reduceAdd, Nat.reduceMul, Nat.reduceSub, Nat.reduceLT, Int.reduceEq, Int.reduceLT, Int.reduceLE, Int.reduceNeg, Nat.reduceLeDiff, if_true, if_false, ↓reduceIte, forall_const, implies_true, reduceCtorEq, forall_eq_or_imp, forall_eq, ne_eq]) (by simp (maxSteps := 2000000) only [↓ctl, evl, val, valP, own, app, wrt, tys, Try.ntmps7, Try.results7, ↓V_convert, ↓V_bytes, stdl, cond_true, cond_false, Nat.reduceEqDiff, Nat.reduceAdd, Nat.reduceMul, Nat.reduceSub, Nat.reduceLT, Int.reduceEq, Int.reduceLT, Int.reduceLE, Int.reduceNeg, Nat.reduceLeDiff, if_true, if_false, ↓reduceIte, forall_const, implies_true, reduceCtorEq, forall_eq_or_imp, forall_eq, ne_eq]) trivial ?_
  simp (maxSteps := 2000000) only [↓ctl, evl, val, valP, own, app, wrt, tys, Try.ntmps7, Try.results7, ↓V_convert, ↓V_bytes, stdl, cond_true, cond_false, Nat.reduceEqDiff, Nat.reduceAdd, Nat.reduceMul, Nat.reduceSub, Nat.reduceLT, Int.reduceEq, Int.reduceLT, Int.reduceLE, Int.reduceNeg, Nat.reduceLeDiff, if_true, if_false, ↓reduceIte, forall_const, implies_true, reduceCtorEq, forall_eq_or_imp, forall_eq, ne_eq]
  refine V_callR mixed (cap := []) (l_toInodeS f.inodes hb.2.1 hb.2.2.2) (by simp (maxSteps := 2000000) only [↓ctl, evl, val, valP, own, app, wrt, tys, Try.ntmps7, Try.results7, ↓V_convert, ↓V_bytes, stdl, cond_true, cond_false, Nat.reduceEqDiff, Nat.reduceAdd, Nat.reduceMul, Nat.reduceSub, Nat.reduceLT, Int.reduceEq, Int.reduceLT, Int.reduceLE, Int.reduceNeg, Nat.reduceLeDiff, if_true, if_false, ↓reduceIte, forall_const, implies_true, reduceCtorEq, forall_eq_or_imp, forall_eq, ne_eq]) (by simp (maxSteps := 2000000) only [↓ctl, evl, val, valP, own, app, wrt, tys, Try.ntmps7, Try.results7, ↓V_convert, ↓V_bytes, stdl, cond_true, cond_false, Nat.reduceEqDiff, Nat.reduceAdd, Nat.reduceMul, Nat.reduceSub, Nat.reduceLT, Int.reduceEq, Int.reduceLT, Int.reduceLE, Int.reduceNeg, Nat.reduceLeDiff, if_true, if_false, ↓reduceIte, forall_const, implies_true, reduceCtorEq, forall_eq_or_imp, forall_eq, ne_eq]) (by simp (maxSteps := 2000000) only [↓ctl, evl, val, valP, own, app, wrt, tys, Try.ntmps7, Try.results7, ↓V_convert, ↓V_bytes, stdl, cond_true, cond_false, Nat.reduceEqDiff, Nat.reduceAdd, Nat.reduceMul, Nat.reduceSub, Nat.reduceLT, Int.reduceEq, Int.reduceLT, Int.reduceLE, Int.reduceNeg, Nat.reduceLeDiff, if_true, if_false, ↓reduceIte, forall_const, implies_true, reduceCtorEq, forall_eq_or_imp, forall_eq, ne_eq]) trivial ?_
  simp (maxSteps := 2000000) only [↓ctl, evl, val, valP, own, app, wrt, tys, Try.ntmps7, Try.results7, ↓V_convert, ↓V_bytes, stdl, cond_true, cond_false, Nat.reduceEqDiff, Nat.reduceAdd, Nat.reduceMul, Nat.reduceSub, Nat.reduceLT, Int.reduceEq, Int.reduceLT, Int.reduceLE, Int.reduceNeg, Nat.reduceLeDiff, if_true, if_false, ↓reduceIte, forall_const, implies_true, reduceCtorEq, forall_eq_or_imp, forall_eq, ne_eq]
  refine V_callR mixed (cap := []) (l_toStringS f.data hb.2.2.1) (by simp (maxSteps := 2000000) only [↓ctl, evl, val, valP, own, app, wrt, tys, Try.ntmps7, Try.results7, ↓V_convert, ↓V_bytes, stdl, cond_true, cond_false, Nat.reduceEqDiff, Nat.reduceAdd, Nat.reduceMul, Nat.reduceSub, Nat.reduceLT, Int.reduceEq, Int.reduceLT, Int.reduceLE, Int.reduceNeg, Nat.reduceLeDiff, if_true, if_false, ↓reduceIte, forall_const, implies_true, reduceCtorEq, forall_eq_or_imp, forall_eq, ne_eq]) (by simp (maxSteps := 2000000) only [↓ctl, evl, val, valP, own, app, wrt, tys, Try.ntmps7, Try.results7, ↓V_convert, ↓V_bytes, stdl, cond_true, cond_false, Nat.reduceEqDiff, Nat.reduceAdd, Nat.reduceMul, Nat.reduceSub, Nat.reduceLT, Int.reduceEq, Int.reduceLT, Int.reduceLE, Int.reduceNeg, Nat.reduceLeDiff, if_true, if_false, ↓reduceIte, forall_const, implies_true, reduceCtorEq, forall_eq_or_imp, forall_eq, ne_eq]) (by simp (maxSteps := 2000000) only [↓ctl, evl, val, valP, own, app, wrt, tys, Try.ntmps7, Try.results7, ↓V_convert, ↓V_bytes, stdl, cond_true, cond_false, Nat.reduceEqDiff, Nat.reduceAdd, Nat.reduceMul, Nat.reduceSub, Nat.reduceLT, Int.reduceEq, Int.reduceLT, Int.reduceLE, Int.reduceNeg, Nat.reduceLeDiff, if_true, if_false, ↓reduceIte, forall_const, implies_true, reduceCtorEq, forall_eq_or_imp, forall_eq, ne_eq]) trivial ?_
  simp (maxSteps := 2000000) only [↓ctl, evl, val, valP, own, app, wrt, tys, Try.ntmps7, Try.results7, ↓V_convert, ↓V_bytes, stdl, cond_true, cond_false, Nat.reduceEqDiff, Nat.reduceAdd, Nat.reduceMul, Nat.reduceSub, Nat.reduceLT, Int.reduceEq, Int.reduceLT, Int.reduceLE, Int.reduceNeg, Nat.reduceLeDiff, if_true, if_false, ↓reduceIte, forall_const, implies_true, reduceCtorEq, forall_eq_or_imp, forall_eq, ne_eq]
/-! ### equality -/
theorem l_eqInode (a b : Inode) (ha : a.fits) (hb : b.fits) : Gives Go.Proofs.Try.prog 63 [inodeAV a, inodeAV b] (.bool (a == b)) := by
  refine gives_of_V mixed Go.Proofs.Try.call63 Go.Proofs.Try.func63 rfl (by rw [Go.Proofs.Try.ntmps63]; simp) ?_
  simp (maxSteps := 2000000) only [↓ctl, evl, val, valP, own, app, wrt, tys, Try.ntmps63, Try.results63, ↓V_convert, ↓V_bytes, stdl, cond_true, cond_false, Nat.reduceEqDiff, Nat.reduceAdd, Nat.reduceMul, Nat.reduceSub, Nat.reduceLT, Int.reduceEq, Int.reduceLT, Int.reduceLE, Int.reduceNeg, Nat.reduceLeDiff, if_true, if_false, ↓reduceIte, forall_const, implies_true, reduceCtorEq, forall_eq_or_imp, forall_eq, ne_eq, inodeAV]
  rw [inode_beq]
  refine ⟨fun h => by grind, fun h1 => ⟨fun h => by grind, fun h2 => ⟨fun h => by grind, fun h3 => ⟨fun h => by grind, fun h4 => ⟨fun h => by grind, fun h5 => ⟨fun h => by grind, fun h6 => ⟨fun h => by grind, fun h7 => ?_⟩⟩⟩⟩⟩⟩⟩
  refine V_callF mixed (cap := []) (fun _ => l_eqIntS a.blocks b.blocks ha.1 hb.1) (by simp (maxSteps := 2000000) (contextual := true) only [↓ctl, evl, val, valP, own, app, wrt, tys, Try.ntmps63, Try.results63, ↓V_convert, ↓V_bytes, stdl, cond_true, cond_false, Nat.reduceEqDiff, Nat.reduceAdd, Nat.reduceMul, Nat.reduceSub, Nat.reduceLT, Int.reduceEq, Int.reduceLT, Int.reduceLE, Int.reduceNeg, Nat.reduceLeDiff, if_true, if_false, ↓reduceIte, forall_const, implies_true, reduceCtorEq, forall_eq_or_imp, forall_eq, ne_eq]) (by simp (maxSteps := 2000000) (contextual := true) only [↓ctl, evl, val, valP, own, app, wrt, tys, Try.ntmps63, Try.results63, ↓V_convert, ↓V_bytes, stdl, cond_true, cond_false, Nat.reduceEqDiff, Nat.reduceAdd, Nat.reduceMul, Nat.reduceSub, Nat.reduceLT, Int.reduceEq, Int.reduceLT, Int.reduceLE, Int.reduceNeg, Nat.reduceLeDiff, if_true, if_false, ↓reduceIte, forall_const, implies_true, reduceCtorEq, forall_eq_or_imp, forall_eq, ne_eq]) (by simp (maxSteps := 2000000) (contextual := true) only [↓ctl, evl, val, valP, own, app, wrt, tys, Try.ntmps63, Try.results63, ↓V_convert, ↓V_bytes, stdl, cond_true, cond_false, Nat.reduceEqDiff, Nat.reduceAdd, Nat.reduceMul, Nat.reduceSub, Nat.reduceLT, Int.reduceEq, Int.reduceLT, Int.reduceLE, Int.reduceNeg, Nat.reduceLeDiff, if_true, if_false, ↓reduceIte, forall_const, implies_true, reduceCtorEq, forall_eq_or_imp, forall_eq, ne_eq]) trivial ?_
  simp (maxSteps := 2000000) only [↓ctl, evl, val, valP, own, app, wrt, tys, Try.ntmps63, Try.results63, ↓V_convert, ↓V_bytes, stdl, cond_true, cond_false, Nat.reduceEqDiff, Nat.reduceAdd, Nat.reduceMul, Nat.reduceSub, Nat.reduceLT, Int.reduceEq, Int.reduceLT, Int.reduceLE, Int.reduceNeg, Nat.reduceLeDiff, if_true, if_false, ↓reduceIte, forall_const, implies_true, reduceCtorEq, forall_eq_or_imp, forall_eq, ne_eq]
  refine ⟨fun h => by grind, fun h8 => ?_⟩
  refine V_callF mixed (cap := []) (fun _ => l_eqAclEntryS a.acl b.acl ha.2.1 hb.2.1) (by simp (maxSteps := 2000000) (contextual := true) only [↓ctl, evl, val, valP, own, app, wrt, tys, Try.ntmps63, Try.results63, ↓V_convert, ↓V_bytes, stdl, cond_true, cond_false, Nat.reduceEqDiff, Nat.reduceAdd, Nat.reduceMul, Nat.reduceSub, Nat.reduceLT, Int.reduceEq, Int.reduceLT, Int.reduceLE, Int.reduceNeg, Nat.reduceLeDiff, if_true, if_false, ↓reduceIte, forall_const, implies_true, reduceCtorEq, forall_eq_or_imp, forall_eq, ne_eq]) (by simp (maxSteps := 2000000) (contextual := true) only [↓ctl, evl, val, valP, own, app, wrt, tys, Try.ntmps63, Try.results63, ↓V_convert, ↓V_bytes, stdl, cond_true, cond_false, Nat.reduceEqDiff, Nat.reduceAdd, Nat.reduceMul, Nat.reduceSub, Nat.reduceLT, Int.reduceEq, Int.reduceLT, Int.reduceLE, Int.reduceNeg, Nat.reduceLeDiff, if_true, if_false, ↓reduceIte, forall_const, implies_true, reduceCtorEq, forall_eq_or_imp, forall_eq, ne_eq]) (by simp (maxSteps := 2000000) (contextual := true) only [↓ctl, evl, val, valP, own, app, wrt, tys, Try.ntmps63, Try.results63, ↓V_convert, ↓V_bytes, stdl, cond_true, cond_false, Nat.reduceEqDiff, Nat.reduceAdd, Nat.reduceMul, Nat.reduceSub, Nat.reduceLT, Int.reduceEq, Int.reduceLT, Int.reduceLE, Int.reduceNeg, Nat.reduceLeDiff, if_true, if_false, ↓reduceIte, forall_const, implies_true, reduceCtorEq, forall_eq_or_imp, forall_eq, ne_eq]) trivial ?_
  simp (maxSteps := 2000000) only [↓ctl, evl, val, valP, own, app, wrt, tys, Try.ntmps63, Try.results63, ↓V_convert, ↓V_bytes, stdl, cond_true, cond_false, Nat.reduceEqDiff, Nat.reduceAdd, Nat.reduceMul, Nat.reduceSub, Nat.reduceLT, Int.reduceEq, Int.reduceLT, Int.reduceLE, Int.reduceNeg, Nat.reduceLeDiff, if_true, if_false, ↓reduceIte, forall_const, implies_true, reduceCtorEq, forall_eq_or_imp, forall_eq, ne_eq]
  refine ⟨fun h => by grind, fun h9 => ?_⟩
  refine V_callF mixed (cap := []) (fun _ => l_eqAclEntryS a.dflt b.dflt ha.2.2 hb.2.2) (by simp (maxSteps := 2000000) (contextual := true) only [↓ctl, evl, val, valP, own, app, wrt, tys, Try.ntmps63, Try.results63, ↓V_convert, ↓V_bytes, stdl, cond_true, cond_false, Nat.reduceEqDiff, Nat.reduceAdd, Nat.reduceMul, Nat.reduceSub, Nat.reduceLT, Int.reduceEq, Int.reduceLT, Int.reduceLE, Int.reduceNeg, Nat.reduceLeDiff, if_true, if_false, ↓reduceIte, forall_const, implies_true, reduceCtorEq, forall_eq_or_imp, forall_eq, ne_eq]) (by simp (maxSteps := 2000000) (contextual := true) only [↓ctl, evl, val, valP, own, app, wrt, tys, Try.ntmps63, Try.results63, ↓V_convert, ↓V_bytes, stdl, cond_true, cond_false, Nat.reduceEqDiff, Nat.reduceAdd, Nat.reduceMul, Nat.reduceSub, Nat.reduceLT, Int.reduceEq, Int.reduceLT, Int.reduceLE, Int.reduceNeg, Nat.reduceLeDiff, if_true, if_false, ↓reduceIte, forall_const, implies_true, reduceCtorEq, forall_eq_or_imp, forall_eq, ne_eq]) (by simp (maxSteps := 2000000) (contextual := true) only [↓ctl, evl, val, valP, own, app, wrt, tys, Try.ntmps63, Try.results63, ↓V_convert, ↓V_bytes, stdl, cond_true, cond_false, Nat.reduceEqDiff, Nat.reduceAdd, Nat.reduceMul, Nat.reduceSub, Nat.reduceLT, Int.reduceEq, Int.reduceLT, Int.reduceLE, Int.reduceNeg, Nat.reduceLeDiff, if_true, if_false, ↓reduceIte, forall_const, implies_true, reduceCtorEq, forall_eq_or_imp, forall_eq, ne_eq]) trivial ?_
  simp (maxSteps := 2000000) only [↓ctl, evl, val, valP, own, app, wrt, tys, Try.ntmps63, Try.results63, ↓V_convert, ↓V_bytes, stdl, cond_true, cond_false, Nat.reduceEqDiff, Nat.reduceAdd, Nat.reduceMul, Nat.reduceSub, Nat.reduceLT, Int.reduceEq, Int.reduceLT, Int.reduceLE, Int.reduceNeg, Nat.reduceLeDiff, if_true, if_false, ↓reduceIte, forall_const, implies_true, reduceCtorEq, forall_eq_or_imp, forall_eq, ne_eq]
  refine ⟨fun h => by grind, fun h10 => by grind⟩
theorem l_eqInodeS (a b : List Inode) (ha : a.length ≤ 1099511627776) (hb : b.length ≤ 1099511627776) (hfa : ∀ n ∈ a, n.fits) (hfb : ∀ n ∈ b, n.fits) : Gives Go.Proofs.Try.prog 32 [.rd 10 (a.map inodeRow), .rd 10 (b.map inodeRow)] (.bool (a == b)) := by
  refine gives_of_V mixed Go.Proofs.Try.call32 Go.Proofs.Try.func32 rfl (by rw [Go.Proofs.Try.ntmps32]; simp) ?_
  simp (maxSteps := 2000000) only [↓ctl, evl, val, valP, own, app, wrt, tys, Try.ntmps32, Try.results32, ↓V_convert, ↓V_bytes, stdl, cond_true, cond_false, Nat.reduceEqDiff, Nat.reduceAdd, Nat.reduceMul, Nat.reduceSub, Nat.reduceLT, Int.reduceEq, Int.reduceLT, Int.reduceLE, Int.reduceNeg, Nat.reduceLeDiff, if_true, if_false, ↓reduceIte, forall_const, implies_true, reduceCtorEq, forall_eq_or_imp, forall_eq, ne_eq]
  refine ⟨fun h => ?_, fun h => ?_⟩
  · have : a.length ≠ b.length := by omega
    symm; simp only [beq_eq_false_iff_ne]; intro e; exact this (by rw [e])
  have hl : a.length = b.length := by omega
  refine V_loopI mixed (ι := {i : Nat // i ≤ a.length ∧ (a == b) = (a.drop i == b.drop i)}) (fun i => ⟨[(0, true, .rd 10 (a.map inodeRow)), (1, true, .rd 10 (b.map inodeRow)), (5, true, I i.1)], [], 0, 27⟩) (fun i => a.length - i.1)  ⟨0, by simp⟩ ?_ ?_ ?_
  · refine weakI ?_
    simp (maxSteps := 2000000) only [↓ctl, evl, val, valP, own, app, wrt, tys, Try.ntmps32, Try.results32, ↓V_convert, ↓V_bytes, stdl, cond_true, cond_false, Nat.reduceEqDiff, Nat.reduceAdd, Nat.reduceMul, Nat.reduceSub, Nat.reduceLT, Int.reduceEq, Int.reduceLT, Int.reduceLE, Int.reduceNeg, Nat.reduceLeDiff, if_true, if_false, ↓reduceIte, forall_const, implies_true, reduceCtorEq, forall_eq_or_imp, forall_eq, ne_eq]
    rfl
  · trivial
  · rintro ⟨i, hi, hx⟩
    by_cases hge : a.length ≤ i
    · have hlt : ¬ i < a.length := by omega
      simp (maxSteps := 2000000) only [↓ctl, evl, val, valP, own, app, wrt, tys, Try.ntmps32, Try.results32, ↓V_convert, ↓V_bytes, stdl, cond_true, cond_false, Nat.reduceEqDiff, Nat.reduceAdd, Nat.reduceMul, Nat.reduceSub, Nat.reduceLT, Int.reduceEq, Int.reduceLT, Int.reduceLE, Int.reduceNeg, Nat.reduceLeDiff, if_true, if_false, ↓reduceIte, forall_const, implies_true, reduceCtorEq, forall_eq_or_imp, forall_eq, ne_eq, hlt]
      rw [hx, drop_end _ _ hlt, drop_end _ _ (by omega)]; rfl
    have hlt : i < a.length := by omega
    have hma := hfa _ (show a.getD i default ∈ a by rw [getD_get a i _ hlt]; exact List.getElem_mem hlt)
    have hmb := hfb _ (show b.getD i default ∈ b by rw [getD_get b i _ (by omega)]; exact List.getElem_mem (by omega))
    simp (maxSteps := 2000000) only [↓ctl, evl, val, valP, own, app, wrt, tys, Try.ntmps32, Try.results32, ↓V_convert, ↓V_bytes, stdl, cond_true, cond_false, Nat.reduceEqDiff, Nat.reduceAdd, Nat.reduceMul, Nat.reduceSub, Nat.reduceLT, Int.reduceEq, Int.reduceLT, Int.reduceLE, Int.reduceNeg, Nat.reduceLeDiff, if_true, if_false, ↓reduceIte, forall_const, implies_true, reduceCtorEq, forall_eq_or_imp, forall_eq, ne_eq, ← hl, hlt, inodeRow_e, ints_map, acls_map]
    refine ⟨by kernel_rfl, ?_⟩
    refine V_callF mixed (cap := []) (fun _ => l_eqInode (a.getD i default) (b.getD i default) hma hmb) (by simp (maxSteps := 2000000) only [↓ctl, evl, val, valP, own, app, wrt, tys, Try.ntmps32, Try.results32, ↓V_convert, ↓V_bytes, stdl, cond_true, cond_false, Nat.reduceEqDiff, Nat.reduceAdd, Nat.reduceMul, Nat.reduceSub, Nat.reduceLT, Int.reduceEq, Int.reduceLT, Int.reduceLE, Int.reduceNeg, Nat.reduceLeDiff, if_true, if_false, ↓reduceIte, forall_const, implies_true, reduceCtorEq, forall_eq_or_imp, forall_eq, ne_eq, inodeAV, ints_map, acls_map, ← hl, hlt]) (by simp (maxSteps := 2000000) only [↓ctl, evl, val, valP, own, app, wrt, tys, Try.ntmps32, Try.results32, ↓V_convert, ↓V_bytes, stdl, cond_true, cond_false, Nat.reduceEqDiff, Nat.reduceAdd, Nat.reduceMul, Nat.reduceSub, Nat.reduceLT, Int.reduceEq, Int.reduceLT, Int.reduceLE, Int.reduceNeg, Nat.reduceLeDiff, if_true, if_false, ↓reduceIte, forall_const, implies_true, reduceCtorEq, forall_eq_or_imp, forall_eq, ne_eq]) (by simp (maxSteps := 2000000) only [↓ctl, evl, val, valP, own, app, wrt, tys, Try.ntmps32, Try.results32, ↓V_convert, ↓V_bytes, stdl, cond_true, cond_false, Nat.reduceEqDiff, Nat.reduceAdd, Nat.reduceMul, Nat.reduceSub, Nat.reduceLT, Int.reduceEq, Int.reduceLT, Int.reduceLE, Int.reduceNeg, Nat.reduceLeDiff, if_true, if_false, ↓reduceIte, forall_const, implies_true, reduceCtorEq, forall_eq_or_imp, forall_eq, ne_eq]) trivial ?_
    simp (maxSteps := 2000000) only [↓ctl, evl, val, valP, own, app, wrt, tys, Try.ntmps32, Try.results32, ↓V_convert, ↓V_bytes, stdl, cond_true, cond_false, Nat.reduceEqDiff, Nat.reduceAdd, Nat.reduceMul, Nat.reduceSub, Nat.reduceLT, Int.reduceEq, Int.reduceLT, Int.reduceLE, Int.reduceNeg, Nat.reduceLeDiff, if_true, if_false, ↓reduceIte, forall_const, implies_true, reduceCtorEq, forall_eq_or_imp, forall_eq, ne_eq, ← hl, hlt]
    refine ⟨fun h0 => ?_, fun h0 => V_backI ⟨i + 1, by omega, ?_⟩ (by show _ - (i + 1) < _; omega) (weakI ?_)⟩
    · rw [hx, eq_drop default hl hlt]; grind
    · rw [hx, eq_drop default hl hlt]; grind
    · simp (maxSteps := 2000000) only [↓ctl, evl, val, valP, own, app, wrt, tys, Try.ntmps32, Try.results32, ↓V_convert, ↓V_bytes, stdl, cond_true, cond_false, Nat.reduceEqDiff, Nat.reduceAdd, Nat.reduceMul, Nat.reduceSub, Nat.reduceLT, Int.reduceEq, Int.reduceLT, Int.reduceLE, Int.reduceNeg, Nat.reduceLeDiff, if_true, if_false, ↓reduceIte, forall_const, implies_true, reduceCtorEq, forall_eq_or_imp, forall_eq, ne_eq]
      rw [wrap_id (by omega) (by omega)]
      rfl
theorem fs_beq (a b : FS) : (a == b) = (a.tick == b.tick && a.quotas == b.quotas && a.inodes == b.inodes && a.data == b.data) := by
  cases a; cases b; grind
def FS.fits (f : FS) : Prop := f.quotas.length ≤ 1099511627776 ∧ f.inodes.length ≤ 1099511627776 ∧ f.data.length ≤ 1099511627776 ∧ (∀ n ∈ f.inodes, n.fits)
theorem l_eqFS (a b : FS) (ha : a.fits) (hb : b.fits) : Gives Go.Proofs.Try.prog 10 [fsAV a, fsAV b] (.bool (a == b)) := by
  refine gives_of_V mixed Go.Proofs.Try.call10 Go.Proofs.Try.func10 rfl (by rw [Go.Proofs.Try.ntmps10]; simp) ?_
  simp (maxSteps := 2000000) only [↓ctl, evl, val, valP, own, app, wrt, tys, Try.ntmps10, Try.results10, ↓V_convert, ↓V_bytes, stdl, cond_true, cond_false, Nat.reduceEqDiff, Nat.reduceAdd, Nat.reduceMul, Nat.reduceSub, Nat.reduceLT, Int.reduceEq, Int.reduceLT, Int.reduceLE, Int.reduceNeg, Nat.reduceLeDiff, if_true, if_false, ↓reduceIte, forall_const, implies_true, reduceCtorEq, forall_eq_or_imp, forall_eq, ne_eq, fsAV]
  rw [fs_beq]
  refine ⟨fun h => by grind, fun h1 => ?_⟩
  refine V_callF mixed (cap := []) (fun _ => l_eqQuotaS a.quotas b.quotas ha.1 hb.1) (by simp (maxSteps := 2000000) (contextual := true) only [↓ctl, evl, val, valP, own, app, wrt, tys, Try.ntmps10, Try.results10, ↓V_convert, ↓V_bytes, stdl, cond_true, cond_false, Nat.reduceEqDiff, Nat.reduceAdd, Nat.reduceMul, Nat.reduceSub, Nat.reduceLT, Int.reduceEq, Int.reduceLT, Int.reduceLE, Int.reduceNeg, Nat.reduceLeDiff, if_true, if_false, ↓reduceIte, forall_const, implies_true, reduceCtorEq, forall_eq_or_imp, forall_eq, ne_eq]) (by simp (maxSteps := 2000000) (contextual := true) only [↓ctl, evl, val, valP, own, app, wrt, tys, Try.ntmps10, Try.results10, ↓V_convert, ↓V_bytes, stdl, cond_true, cond_false, Nat.reduceEqDiff, Nat.reduceAdd, Nat.reduceMul, Nat.reduceSub, Nat.reduceLT, Int.reduceEq, Int.reduceLT, Int.reduceLE, Int.reduceNeg, Nat.reduceLeDiff, if_true, if_false, ↓reduceIte, forall_const, implies_true, reduceCtorEq, forall_eq_or_imp, forall_eq, ne_eq]) (by simp (maxSteps := 2000000) (contextual := true) only [↓ctl, evl, val, valP, own, app, wrt, tys, Try.ntmps10, Try.results10, ↓V_convert, ↓V_bytes, stdl, cond_true, cond_false, Nat.reduceEqDiff, Nat.reduceAdd, Nat.reduceMul, Nat.reduceSub, Nat.reduceLT, Int.reduceEq, Int.reduceLT, Int.reduceLE, Int.reduceNeg, Nat.reduceLeDiff, if_true, if_false, ↓reduceIte, forall_const, implies_true, reduceCtorEq, forall_eq_or_imp, forall_eq, ne_eq]) trivial ?_
  simp (maxSteps := 2000000) only [↓ctl, evl, val, valP, own, app, wrt, tys, Try.ntmps10, Try.results10, ↓V_convert, ↓V_bytes, stdl, cond_true, cond_false, Nat.reduceEqDiff, Nat.reduceAdd, Nat.reduceMul, Nat.reduceSub, Nat.reduceLT, Int.reduceEq, Int.reduceLT, Int.reduceLE, Int.reduceNeg, Nat.reduceLeDiff, if_true, if_false, ↓reduceIte, forall_const, implies_true, reduceCtorEq, forall_eq_or_imp, forall_eq, ne_eq]
  refine ⟨fun h => by grind, fun h2 => ?_⟩
  refine V_callF mixed (cap := []) (fun _ => l_eqInodeS a.inodes b.inodes ha.2.1 hb.2.1 ha.2.2.2 hb.2.2.2) (by simp (maxSteps := 2000000) (contextual := true) only [↓ctl, evl, val, valP, own, app, wrt, tys, Try.ntmps10, Try.results10, ↓V_convert, ↓V_bytes, stdl, cond_true, cond_false, Nat.reduceEqDiff, Nat.reduceAdd, Nat.reduceMul, Nat.reduceSub, Nat.reduceLT, Int.reduceEq, Int.reduceLT, Int.reduceLE, Int.reduceNeg, Nat.reduceLeDiff, if_true, if_false, ↓reduceIte, forall_const, implies_true, reduceCtorEq, forall_eq_or_imp, forall_eq, ne_eq]) (by simp (maxSteps := 2000000) (contextual := true) only [↓ctl, evl, val, valP, own, app, wrt, tys, Try.ntmps10, Try.results10, ↓V_convert, ↓V_bytes, stdl, cond_true, cond_false, Nat.reduceEqDiff, Nat.reduceAdd, Nat.reduceMul, Nat.reduceSub, Nat.reduceLT, Int.reduceEq, Int.reduceLT, Int.reduceLE, Int.reduceNeg, Nat.reduceLeDiff, if_true, if_false, ↓reduceIte, forall_const, implies_true, reduceCtorEq, forall_eq_or_imp, forall_eq, ne_eq]) (by simp (maxSteps := 2000000) (contextual := true) only [↓ctl, evl, val, valP, own, app, wrt, tys, Try.ntmps10, Try.results10, ↓V_convert, ↓V_bytes, stdl, cond_true, cond_false, Nat.reduceEqDiff, Nat.reduceAdd, Nat.reduceMul, Nat.reduceSub, Nat.reduceLT, Int.reduceEq, Int.reduceLT, Int.reduceLE, Int.reduceNeg, Nat.reduceLeDiff, if_true, if_false, ↓reduceIte, forall_const, implies_true, reduceCtorEq, forall_eq_or_imp, forall_eq, ne_eq]) trivial ?_
  simp (maxSteps := 2000000) only [↓ctl, evl, val, valP, own, app, wrt, tys, Try.ntmps10, Try.results10, ↓V_convert, ↓V_bytes, stdl, cond_true, cond_false, Nat.reduceEqDiff, Nat.reduceAdd, Nat.reduceMul, Nat.reduceSub, Nat.reduceLT, Int.reduceEq, Int.reduceLT, Int.reduceLE, Int.reduceNeg, Nat.reduceLeDiff, if_true, if_false, ↓reduceIte, forall_const, implies_true, reduceCtorEq, forall_eq_or_imp, forall_eq, ne_eq]
  refine ⟨fun h => by grind, fun h3 => ?_⟩
  refine V_callF mixed (cap := []) (fun _ => l_eqStringS a.data b.data ha.2.2.1 hb.2.2.1) (by simp (maxSteps := 2000000) (contextual := true) only [↓ctl, evl, val, valP, own, app, wrt, tys, Try.ntmps10, Try.results10, ↓V_convert, ↓V_bytes, stdl, cond_true, cond_false, Nat.reduceEqDiff, Nat.reduceAdd, Nat.reduceMul, Nat.reduceSub, Nat.reduceLT, Int.reduceEq, Int.reduceLT, Int.reduceLE, Int.reduceNeg, Nat.reduceLeDiff, if_true, if_false, ↓reduceIte, forall_const, implies_true, reduceCtorEq, forall_eq_or_imp, forall_eq, ne_eq]) (by simp (maxSteps := 2000000) (contextual := true) only [↓ctl, evl, val, valP, own, app, wrt, tys, Try.ntmps10, Try.results10, ↓V_convert, ↓V_bytes, stdl, cond_true, cond_false, Nat.reduceEqDiff, Nat.reduceAdd, Nat.reduceMul, Nat.reduceSub, Nat.reduceLT, Int.reduceEq, Int.reduceLT, Int.reduceLE, Int.reduceNeg, Nat.reduceLeDiff, if_true, if_false, ↓reduceIte, forall_const, implies_true, reduceCtorEq, forall_eq_or_imp, forall_eq, ne_eq]) (by simp (maxSteps := 2000000) (contextual := true) only [↓ctl, evl, val, valP, own, app, wrt, tys, Try.ntmps10, Try.results10, ↓V_convert, ↓V_bytes, stdl, cond_true, cond_false, Nat.reduceEqDiff, Nat.reduceAdd, Nat.reduceMul, Nat.reduceSub, Nat.reduceLT, Int.reduceEq, Int.reduceLT, Int.reduceLE, Int.reduceNeg, Nat.reduceLeDiff, if_true, if_false, ↓reduceIte, forall_const, implies_true, reduceCtorEq, forall_eq_or_imp, forall_eq, ne_eq]) trivial ?_
  simp (maxSteps := 2000000) only [↓ctl, evl, val, valP, own, app, wrt, tys, Try.ntmps10, Try.results10, ↓V_convert, ↓V_bytes, stdl, cond_true, cond_false, Nat.reduceEqDiff, Nat.reduceAdd, Nat.reduceMul, Nat.reduceSub, Nat.reduceLT, Int.reduceEq, Int.reduceLT, Int.reduceLE, Int.reduceNeg, Nat.reduceLeDiff, if_true, if_false, ↓reduceIte, forall_const, implies_true, reduceCtorEq, forall_eq_or_imp, forall_eq, ne_eq]
  refine ⟨fun h => by grind, fun h4 => by grind⟩
end Go.Proofs.Ytobnbajakenbeaa


/- Contracts: the law's own functions for inodes and file systems: marks, what is held.  -/
set_option linter.all false
set_option maxRecDepth 10000
set_option maxHeartbeats 4000000
namespace Go.Proofs.Ytobnbajakenbeaa
open Go Go.Eng

def cntN (n : Inode) : Nat := 7 + n.blocks.length + 3 * n.acl.length + 3 * n.dflt.length
def mkN (k : Nat) (n : Inode) : Inode := ⟨k, (k + 1 : Nat), (k + 2 : Nat), (k + 3 : Nat), (k + 4 : Nat), (k + 5 : Nat), (k + 6 : Nat), marks (mkI (k + 7)) n.blocks.length, marks (mkA (k + 7 + 1 * n.blocks.length)) n.acl.length, marks (mkA (k + 7 + 1 * n.blocks.length + 3 * n.acl.length)) n.dflt.length⟩
def mkNs : Nat → List Inode → List Inode
  | _, [] => []
  | k, n :: r => mkN k n :: mkNs (k + cntN n) r
def cntL (l : List Inode) : Nat := (l.map cntN).sum
theorem mkNs_length : ∀ (k : Nat) (l : List Inode), (mkNs k l).length = l.length
  | _, [] => rfl
  | k, n :: r => by simp [mkNs, mkNs_length (k + cntN n) r]
theorem cntL_take {l : List Inode} {i : Nat} (h : i < l.length) : cntL (l.take (i + 1)) = cntL (l.take i) + cntN (l.getD i default) := by
  rw [List.take_succ_eq_append_getElem h, getD_get l i _ h]; unfold cntL; rw [List.map_append, List.sum_append]; simp
theorem cntL_le {l : List Inode} (i : Nat) : cntL (l.take i) ≤ cntL l := by
  have e : cntL l = cntL (l.take i) + cntL (l.drop i) := by unfold cntL; rw [← List.sum_append, ← List.map_append, List.take_append_drop]
  omega
theorem mkNs_append : ∀ (l l' : List Inode) (k : Nat), mkNs k (l ++ l') = mkNs k l ++ mkNs (k + cntL l) l'
  | [], _, k => by simp [mkNs, cntL]
  | n :: r, l', k => by simp [mkNs, mkNs_append r l', cntL, Nat.add_assoc]
/-- The first i inodes are marked. -/
def markN (k : Nat) (l : List Inode) (i : Nat) : List (List Cell) := (mkNs k (l.take i) ++ l.drop i).map inodeRow
theorem markN_zero (k : Nat) (l : List Inode) : l.map inodeRow = markN k l 0 := by simp [markN, mkNs]
theorem markN_length (k : Nat) (l : List Inode) (i : Nat) : (markN k l i).length = l.length := by
  simp [markN, mkNs_length]; omega
theorem markN_getD (k : Nat) (l : List Inode) (i : Nat) (h : i < l.length) : (markN k l i).getD i [] = inodeRow (l.getD i default) := by
  unfold markN
  have hl : (mkNs k (l.take i)).length = i := by rw [mkNs_length]; simp; omega
  rw [List.getD_eq_getElem?_getD, List.getElem?_map, List.getElem?_append_right (by omega), hl, Nat.sub_self, List.getElem?_drop, Nat.add_zero, List.getElem?_eq_getElem h, getD_get l i _ h]; rfl
theorem markN_set (k : Nat) (l : List Inode) (i : Nat) (h : i < l.length) : (markN k l i).set i (inodeRow (mkN (k + cntL (l.take i)) (l.getD i default))) = markN k l (i + 1) := by
  unfold markN
  have hl : (mkNs k (l.take i)).length = i := by rw [mkNs_length]; simp; omega
  rw [← List.map_set, List.set_append_right _ _ (by omega), hl, Nat.sub_self, List.drop_eq_getElem_cons h, List.set_cons_zero, List.take_succ_eq_append_getElem h, mkNs_append]
  rw [getD_get l i _ h]; simp [mkNs]
theorem markN_end (k : Nat) (l : List Inode) : markN k l l.length = (mkNs k l).map inodeRow := by simp [markN]
/-- An inode's row whose fields are marked, with these nested slices. -/
def mkRow (q : Nat) (b c d : List (List Value)) : List Cell := [.v (.int .i64 (q : Nat)), .v (.int .i64 (q + 1 : Nat)), .v (.int .i64 (q + 2 : Nat)), .v (.int .i64 (q + 3 : Nat)), .v (.int .i64 (q + 4 : Nat)), .v (.int .i64 (q + 5 : Nat)), .v (.int .i64 (q + 6 : Nat)), .s 3 1 b, .s 111 3 c, .s 111 3 d]
theorem mkRow_e (q : Nat) (b c d : List (List Value)) : mkRow q b c d = [.v (.int .i64 (q : Nat)), .v (.int .i64 (q + 1 : Nat)), .v (.int .i64 (q + 2 : Nat)), .v (.int .i64 (q + 3 : Nat)), .v (.int .i64 (q + 4 : Nat)), .v (.int .i64 (q + 5 : Nat)), .v (.int .i64 (q + 6 : Nat)), .s 3 1 b, .s 111 3 c, .s 111 3 d] := rfl
theorem l_markIntS' (a : List Int) (k : Nat) (h1 : k + a.length ≤ 1099511627776) : Turns Go.Proofs.Try.prog 64 [.sl 0 1 0 a.length, I k] 1 [(0, .row 3 1 ((a.map intVals).map (·.map Cell.v)))] (.int .i64 (k + 1 * a.length : Nat)) [(0, .row 3 1 (((marks (mkI k) a.length).map intVals).map (·.map Cell.v)))] := by
  rw [ints_map, ints_map, Nat.one_mul]; exact l_markIntS a k h1
theorem l_markAclEntryS' (a : List Acl) (k : Nat) (h1 : k + 3 * a.length ≤ 1099511627776) : Turns Go.Proofs.Try.prog 65 [.sl 0 3 0 a.length, I k] 1 [(0, .row 111 3 ((a.map aclVals).map (·.map Cell.v)))] (.int .i64 (k + 3 * a.length : Nat)) [(0, .row 111 3 (((marks (mkA k) a.length).map aclVals).map (·.map Cell.v)))] := by
  rw [acls_map, acls_map]; exact l_markAclEntryS a k h1
theorem l_markInodeS (a : List Inode) (k : Nat) (h1 : k + cntL a ≤ 1099511627776) (ha : a.length ≤ 1099511627776) : Turns Go.Proofs.Try.prog 34 [.sl 0 10 0 a.length, I k] 1 [(0, .row 54 10 (a.map inodeRow))] (.int .i64 (k + cntL a : Nat)) [(0, .row 54 10 ((mkNs k a).map inodeRow))] := by
  refine turns_of_V mixed Go.Proofs.Try.call34 Go.Proofs.Try.func34 rfl (by rw [Go.Proofs.Try.ntmps34]; simp) (by simp (maxSteps := 2000000) only [↓ctl, evl, val, valP, own, app, wrt, tys, Try.ntmps34, Try.results34, ↓V_convert, ↓V_bytes, stdl, cond_true, cond_false, Nat.reduceEqDiff, Nat.reduceAdd, Nat.reduceMul, Nat.reduceSub, Nat.reduceLT, Int.reduceEq, Int.reduceLT, Int.reduceLE, Int.reduceNeg, Nat.reduceLeDiff, if_true, if_false, ↓reduceIte, forall_const, implies_true, reduceCtorEq, forall_eq_or_imp, forall_eq, ne_eq]) fun o z => ?_
  simp (maxSteps := 2000000) only [↓ctl, evl, val, valP, own, app, wrt, tys, Try.ntmps34, Try.results34, ↓V_convert, ↓V_bytes, stdl, cond_true, cond_false, Nat.reduceEqDiff, Nat.reduceAdd, Nat.reduceMul, Nat.reduceSub, Nat.reduceLT, Int.reduceEq, Int.reduceLT, Int.reduceLE, Int.reduceNeg, Nat.reduceLeDiff, if_true, if_false, ↓reduceIte, forall_const, implies_true, reduceCtorEq, forall_eq_or_imp, forall_eq, ne_eq]
  refine V_loopI mixed (ι := {i : Nat // i ≤ a.length}) (fun i => ⟨[(0, true, .sl 0 10 0 a.length), (1, true, I (k + cntL (a.take i.1) : Nat)), (5, true, I i.1)], [(0, .row 54 10 (markN k a i.1)), (1, .pin 0 (o 0) (z 0))], 2, 83⟩) (fun i => a.length - i.1)  ⟨0, by omega⟩ ?_ ?_ ?_
  · refine weakI ?_
    simp (maxSteps := 2000000) only [↓ctl, evl, val, valP, own, app, wrt, tys, Try.ntmps34, Try.results34, ↓V_convert, ↓V_bytes, stdl, cond_true, cond_false, Nat.reduceEqDiff, Nat.reduceAdd, Nat.reduceMul, Nat.reduceSub, Nat.reduceLT, Int.reduceEq, Int.reduceLT, Int.reduceLE, Int.reduceNeg, Nat.reduceLeDiff, if_true, if_false, ↓reduceIte, forall_const, implies_true, reduceCtorEq, forall_eq_or_imp, forall_eq, ne_eq]
    exact ⟨⟨rfl, rfl⟩, congrArg (Chunk.row _ _) (markN_zero ..)⟩
  · trivial
  · rintro ⟨i, hi⟩
    by_cases hlt : i < a.length
    · have g1 := markN_length k a i
      have g2 := markN_getD k a i hlt
      have g3 : ∀ x, ((markN k a i).set i x).getD i [] = x := fun x => getD_set_same _ _ _ _ (by rw [g1]; exact hlt)
      have hc := cntL_take hlt
      have hc2 : cntL (a.take (i + 1)) ≤ cntL a := cntL_le (i + 1)
      have hset := markN_set k a i hlt
      generalize hq : k + cntL (a.take i) = q at *
      have hb : q + cntN (a.getD i default) ≤ 1099511627776 := by omega
      have hb' := hb
      unfold cntN at hb'
      have w1 : IntKind.i64.wrap ((q : Int) + 1) = ((q + 1 : Nat) : Int) := by rw [wrap_id (by omega) (by omega)]; omega
      have w2 : IntKind.i64.wrap (((q + 1 : Nat) : Int) + 1) = ((q + 2 : Nat) : Int) := by rw [wrap_id (by omega) (by omega)]; omega
      have w3 : IntKind.i64.wrap (((q + 2 : Nat) : Int) + 1) = ((q + 3 : Nat) : Int) := by rw [wrap_id (by omega) (by omega)]; omega
      have w4 : IntKind.i64.wrap (((q + 3 : Nat) : Int) + 1) = ((q + 4 : Nat) : Int) := by rw [wrap_id (by omega) (by omega)]; omega
      have w5 : IntKind.i64.wrap (((q + 4 : Nat) : Int) + 1) = ((q + 5 : Nat) : Int) := by rw [wrap_id (by omega) (by omega)]; omega
      have w6 : IntKind.i64.wrap (((q + 5 : Nat) : Int) + 1) = ((q + 6 : Nat) : Int) := by rw [wrap_id (by omega) (by omega)]; omega
      have w7 : IntKind.i64.wrap (((q + 6 : Nat) : Int) + 1) = ((q + 7 : Nat) : Int) := by rw [wrap_id (by omega) (by omega)]; omega
      simp (maxSteps := 2000000) only [↓ctl, evl, val, valP, own, app, wrt, tys, Try.ntmps34, Try.results34, ↓V_convert, ↓V_bytes, stdl, cond_true, cond_false, Nat.reduceEqDiff, Nat.reduceAdd, Nat.reduceMul, Nat.reduceSub, Nat.reduceLT, Int.reduceEq, Int.reduceLT, Int.reduceLE, Int.reduceNeg, Nat.reduceLeDiff, if_true, if_false, ↓reduceIte, forall_const, implies_true, reduceCtorEq, forall_eq_or_imp, forall_eq, ne_eq, hlt, g1, g2, g3, List.set_set, inodeRow_e, w1, w2, w3, w4, w5, w6, w7]
      have m1 : ((marks (mkI (q + 7)) (a.getD i default).blocks.length).map intVals).length = ((a.getD i default).blocks.map intVals).length := by simp [marks_length]
      have m2 : ((marks (mkA (q + 7 + 1 * (a.getD i default).blocks.length)) (a.getD i default).acl.length).map aclVals).length = ((a.getD i default).acl.map aclVals).length := by simp [marks_length]
      have m3 : ((marks (mkA (q + 7 + 1 * (a.getD i default).blocks.length + 3 * (a.getD i default).acl.length)) (a.getD i default).dflt.length).map aclVals).length = ((a.getD i default).dflt.map aclVals).length := by simp [marks_length]
      refine V_callTs mixed (cap := []) (e0 := 54) (E0 := 10) (rows := (markN k a i).set i (mkRow q ((a.getD i default).blocks.map intVals) ((a.getD i default).acl.map aclVals) ((a.getD i default).dflt.map aclVals))) 0 i 7 (l_markIntS' (a.getD i default).blocks (q + 7) (by omega)) (by simp (maxSteps := 2000000) only [↓ctl, evl, val, valP, own, app, wrt, tys, Try.ntmps34, Try.results34, ↓V_convert, ↓V_bytes, stdl, cond_true, cond_false, Nat.reduceEqDiff, Nat.reduceAdd, Nat.reduceMul, Nat.reduceSub, Nat.reduceLT, Int.reduceEq, Int.reduceLT, Int.reduceLE, Int.reduceNeg, Nat.reduceLeDiff, if_true, if_false, ↓reduceIte, forall_const, implies_true, reduceCtorEq, forall_eq_or_imp, forall_eq, ne_eq, g1, g3, mkRow_e, hlt]) (by simp (maxSteps := 2000000) only [↓ctl, evl, val, valP, own, app, wrt, tys, Try.ntmps34, Try.results34, ↓V_convert, ↓V_bytes, stdl, cond_true, cond_false, Nat.reduceEqDiff, Nat.reduceAdd, Nat.reduceMul, Nat.reduceSub, Nat.reduceLT, Int.reduceEq, Int.reduceLT, Int.reduceLE, Int.reduceNeg, Nat.reduceLeDiff, if_true, if_false, ↓reduceIte, forall_const, implies_true, reduceCtorEq, forall_eq_or_imp, forall_eq, ne_eq, g1, g3, mkRow_e, hlt, List.getElem?_cons_succ, List.getElem?_cons_zero]) m1 (by simp (maxSteps := 2000000) only [↓ctl, evl, val, valP, own, app, wrt, tys, Try.ntmps34, Try.results34, ↓V_convert, ↓V_bytes, stdl, cond_true, cond_false, Nat.reduceEqDiff, Nat.reduceAdd, Nat.reduceMul, Nat.reduceSub, Nat.reduceLT, Int.reduceEq, Int.reduceLT, Int.reduceLE, Int.reduceNeg, Nat.reduceLeDiff, if_true, if_false, ↓reduceIte, forall_const, implies_true, reduceCtorEq, forall_eq_or_imp, forall_eq, ne_eq]) (by simp (maxSteps := 2000000) only [↓ctl, evl, val, valP, own, app, wrt, tys, Try.ntmps34, Try.results34, ↓V_convert, ↓V_bytes, stdl, cond_true, cond_false, Nat.reduceEqDiff, Nat.reduceAdd, Nat.reduceMul, Nat.reduceSub, Nat.reduceLT, Int.reduceEq, Int.reduceLT, Int.reduceLE, Int.reduceNeg, Nat.reduceLeDiff, if_true, if_false, ↓reduceIte, forall_const, implies_true, reduceCtorEq, forall_eq_or_imp, forall_eq, ne_eq]) trivial ?_
      simp (maxSteps := 2000000) only [↓ctl, evl, val, valP, own, app, wrt, tys, Try.ntmps34, Try.results34, ↓V_convert, ↓V_bytes, stdl, cond_true, cond_false, Nat.reduceEqDiff, Nat.reduceAdd, Nat.reduceMul, Nat.reduceSub, Nat.reduceLT, Int.reduceEq, Int.reduceLT, Int.reduceLE, Int.reduceNeg, Nat.reduceLeDiff, if_true, if_false, ↓reduceIte, forall_const, implies_true, reduceCtorEq, forall_eq_or_imp, forall_eq, ne_eq, hlt, g1, g3, List.set_set, mkRow_e]
      refine V_callTs mixed (cap := []) (e0 := 54) (E0 := 10) (rows := (markN k a i).set i (mkRow q ((marks (mkI (q + 7)) (a.getD i default).blocks.length).map intVals) ((a.getD i default).acl.map aclVals) ((a.getD i default).dflt.map aclVals))) 0 i 8 (l_markAclEntryS' (a.getD i default).acl (q + 7 + 1 * (a.getD i default).blocks.length) (by omega)) (by simp (maxSteps := 2000000) only [↓ctl, evl, val, valP, own, app, wrt, tys, Try.ntmps34, Try.results34, ↓V_convert, ↓V_bytes, stdl, cond_true, cond_false, Nat.reduceEqDiff, Nat.reduceAdd, Nat.reduceMul, Nat.reduceSub, Nat.reduceLT, Int.reduceEq, Int.reduceLT, Int.reduceLE, Int.reduceNeg, Nat.reduceLeDiff, if_true, if_false, ↓reduceIte, forall_const, implies_true, reduceCtorEq, forall_eq_or_imp, forall_eq, ne_eq, g1, g3, mkRow_e, hlt]) (by simp (maxSteps := 2000000) only [↓ctl, evl, val, valP, own, app, wrt, tys, Try.ntmps34, Try.results34, ↓V_convert, ↓V_bytes, stdl, cond_true, cond_false, Nat.reduceEqDiff, Nat.reduceAdd, Nat.reduceMul, Nat.reduceSub, Nat.reduceLT, Int.reduceEq, Int.reduceLT, Int.reduceLE, Int.reduceNeg, Nat.reduceLeDiff, if_true, if_false, ↓reduceIte, forall_const, implies_true, reduceCtorEq, forall_eq_or_imp, forall_eq, ne_eq, g1, g3, mkRow_e, hlt, List.getElem?_cons_succ, List.getElem?_cons_zero]) m2 (by simp (maxSteps := 2000000) only [↓ctl, evl, val, valP, own, app, wrt, tys, Try.ntmps34, Try.results34, ↓V_convert, ↓V_bytes, stdl, cond_true, cond_false, Nat.reduceEqDiff, Nat.reduceAdd, Nat.reduceMul, Nat.reduceSub, Nat.reduceLT, Int.reduceEq, Int.reduceLT, Int.reduceLE, Int.reduceNeg, Nat.reduceLeDiff, if_true, if_false, ↓reduceIte, forall_const, implies_true, reduceCtorEq, forall_eq_or_imp, forall_eq, ne_eq]) (by simp (maxSteps := 2000000) only [↓ctl, evl, val, valP, own, app, wrt, tys, Try.ntmps34, Try.results34, ↓V_convert, ↓V_bytes, stdl, cond_true, cond_false, Nat.reduceEqDiff, Nat.reduceAdd, Nat.reduceMul, Nat.reduceSub, Nat.reduceLT, Int.reduceEq, Int.reduceLT, Int.reduceLE, Int.reduceNeg, Nat.reduceLeDiff, if_true, if_false, ↓reduceIte, forall_const, implies_true, reduceCtorEq, forall_eq_or_imp, forall_eq, ne_eq]) trivial ?_
      simp (maxSteps := 2000000) only [↓ctl, evl, val, valP, own, app, wrt, tys, Try.ntmps34, Try.results34, ↓V_convert, ↓V_bytes, stdl, cond_true, cond_false, Nat.reduceEqDiff, Nat.reduceAdd, Nat.reduceMul, Nat.reduceSub, Nat.reduceLT, Int.reduceEq, Int.reduceLT, Int.reduceLE, Int.reduceNeg, Nat.reduceLeDiff, if_true, if_false, ↓reduceIte, forall_const, implies_true, reduceCtorEq, forall_eq_or_imp, forall_eq, ne_eq, hlt, g1, g3, List.set_set, mkRow_e]
      refine V_callTs mixed (cap := []) (e0 := 54) (E0 := 10) (rows := (markN k a i).set i (mkRow q ((marks (mkI (q + 7)) (a.getD i default).blocks.length).map intVals) ((marks (mkA (q + 7 + 1 * (a.getD i default).blocks.length)) (a.getD i default).acl.length).map aclVals) ((a.getD i default).dflt.map aclVals))) 0 i 9 (l_markAclEntryS' (a.getD i default).dflt (q + 7 + 1 * (a.getD i default).blocks.length + 3 * (a.getD i default).acl.length) (by omega)) (by simp (maxSteps := 2000000) only [↓ctl, evl, val, valP, own, app, wrt, tys, Try.ntmps34, Try.results34, ↓V_convert, ↓V_bytes, stdl, cond_true, cond_false, Nat.reduceEqDiff, Nat.reduceAdd, Nat.reduceMul, Nat.reduceSub, Nat.reduceLT, Int.reduceEq, Int.reduceLT, Int.reduceLE, Int.reduceNeg, Nat.reduceLeDiff, if_true, if_false, ↓reduceIte, forall_const, implies_true, reduceCtorEq, forall_eq_or_imp, forall_eq, ne_eq, g1, g3, mkRow_e, hlt]) (by simp (maxSteps := 2000000) only [↓ctl, evl, val, valP, own, app, wrt, tys, Try.ntmps34, Try.results34, ↓V_convert, ↓V_bytes, stdl, cond_true, cond_false, Nat.reduceEqDiff, Nat.reduceAdd, Nat.reduceMul, Nat.reduceSub, Nat.reduceLT, Int.reduceEq, Int.reduceLT, Int.reduceLE, Int.reduceNeg, Nat.reduceLeDiff, if_true, if_false, ↓reduceIte, forall_const, implies_true, reduceCtorEq, forall_eq_or_imp, forall_eq, ne_eq, g1, g3, mkRow_e, hlt, List.getElem?_cons_succ, List.getElem?_cons_zero]) m3 (by simp (maxSteps := 2000000) only [↓ctl, evl, val, valP, own, app, wrt, tys, Try.ntmps34, Try.results34, ↓V_convert, ↓V_bytes, stdl, cond_true, cond_false, Nat.reduceEqDiff, Nat.reduceAdd, Nat.reduceMul, Nat.reduceSub, Nat.reduceLT, Int.reduceEq, Int.reduceLT, Int.reduceLE, Int.reduceNeg, Nat.reduceLeDiff, if_true, if_false, ↓reduceIte, forall_const, implies_true, reduceCtorEq, forall_eq_or_imp, forall_eq, ne_eq]) (by simp (maxSteps := 2000000) only [↓ctl, evl, val, valP, own, app, wrt, tys, Try.ntmps34, Try.results34, ↓V_convert, ↓V_bytes, stdl, cond_true, cond_false, Nat.reduceEqDiff, Nat.reduceAdd, Nat.reduceMul, Nat.reduceSub, Nat.reduceLT, Int.reduceEq, Int.reduceLT, Int.reduceLE, Int.reduceNeg, Nat.reduceLeDiff, if_true, if_false, ↓reduceIte, forall_const, implies_true, reduceCtorEq, forall_eq_or_imp, forall_eq, ne_eq]) trivial ?_
      simp (maxSteps := 2000000) only [↓ctl, evl, val, valP, own, app, wrt, tys, Try.ntmps34, Try.results34, ↓V_convert, ↓V_bytes, stdl, cond_true, cond_false, Nat.reduceEqDiff, Nat.reduceAdd, Nat.reduceMul, Nat.reduceSub, Nat.reduceLT, Int.reduceEq, Int.reduceLT, Int.reduceLE, Int.reduceNeg, Nat.reduceLeDiff, if_true, if_false, ↓reduceIte, forall_const, implies_true, reduceCtorEq, forall_eq_or_imp, forall_eq, ne_eq, hlt, g1, g3, List.set_set, mkRow_e]
      refine V_backI ⟨i + 1, by omega⟩ (by show _ - (i + 1) < _; omega) (weakI ?_)
      simp (maxSteps := 2000000) only [↓ctl, evl, val, valP, own, app, wrt, tys, Try.ntmps34, Try.results34, ↓V_convert, ↓V_bytes, stdl, cond_true, cond_false, Nat.reduceEqDiff, Nat.reduceAdd, Nat.reduceMul, Nat.reduceSub, Nat.reduceLT, Int.reduceEq, Int.reduceLT, Int.reduceLE, Int.reduceNeg, Nat.reduceLeDiff, if_true, if_false, ↓reduceIte, forall_const, implies_true, reduceCtorEq, forall_eq_or_imp, forall_eq, ne_eq]
      rw [wrap_id (by omega) (by omega)]
      refine ⟨⟨?_, rfl⟩, congrArg (Chunk.row _ _) (Eq.trans ?_ hset)⟩
      · rw [hc, ← Nat.add_assoc, hq]; unfold cntN; omega
      · rfl
    · have hn : i = a.length := by omega
      subst hn
      simp (maxSteps := 2000000) only [↓ctl, evl, val, valP, own, app, wrt, tys, Try.ntmps34, Try.results34, ↓V_convert, ↓V_bytes, stdl, cond_true, cond_false, Nat.reduceEqDiff, Nat.reduceAdd, Nat.reduceMul, Nat.reduceSub, Nat.reduceLT, Int.reduceEq, Int.reduceLT, Int.reduceLE, Int.reduceNeg, Nat.reduceLeDiff, if_true, if_false, ↓reduceIte, forall_const, implies_true, reduceCtorEq, forall_eq_or_imp, forall_eq, ne_eq, hlt]
      rw [List.take_length]
      exact ⟨rfl, congrArg (Chunk.row _ _) (markN_end k a)⟩
theorem l_markFS (f : FS) (k : Nat) (h0 : 0 < k) (h1 : k + 2 * f.quotas.length + cntL f.inodes + 1 * f.data.length ≤ 1099511627776) (ha : f.inodes.length ≤ 1099511627776) : Turns Go.Proofs.Try.prog 11 [.agg [I f.tick, .sl 0 2 0 f.quotas.length, .sl 1 10 0 f.inodes.length, .sl 2 1 0 f.data.length], I k] 3
    [(0, .row 64 2 (f.quotas.map quotaRow)), (1, .row 54 10 (f.inodes.map inodeRow)), (2, .row 9 1 (f.data.map strRow))] (.int .i64 (k + 2 * f.quotas.length + cntL f.inodes + 1 * f.data.length : Nat))
    [(0, .row 64 2 ((marks (mkQ k) f.quotas.length).map quotaRow)), (1, .row 54 10 ((mkNs (k + 2 * f.quotas.length) f.inodes).map inodeRow)), (2, .row 9 1 ((marks (mkS (k + 2 * f.quotas.length + cntL f.inodes)) f.data.length).map strRow))] := by
  refine turns_of_V mixed Go.Proofs.Try.call11 Go.Proofs.Try.func11 rfl (by rw [Go.Proofs.Try.ntmps11]; simp) (by simp (maxSteps := 2000000) only [↓ctl, evl, val, valP, own, app, wrt, tys, Try.ntmps11, Try.results11, ↓V_convert, ↓V_bytes, stdl, cond_true, cond_false, Nat.reduceEqDiff, Nat.reduceAdd, Nat.reduceMul, Nat.reduceSub, Nat.reduceLT, Int.reduceEq, Int.reduceLT, Int.reduceLE, Int.reduceNeg, Nat.reduceLeDiff, if_true, if_false, ↓reduceIte, forall_const, implies_true, reduceCtorEq, forall_eq_or_imp, forall_eq, ne_eq]) fun o z => ?_
  simp (maxSteps := 2000000) only [↓ctl, evl, val, valP, own, app, wrt, tys, Try.ntmps11, Try.results11, ↓V_convert, ↓V_bytes, stdl, cond_true, cond_false, Nat.reduceEqDiff, Nat.reduceAdd, Nat.reduceMul, Nat.reduceSub, Nat.reduceLT, Int.reduceEq, Int.reduceLT, Int.reduceLE, Int.reduceNeg, Nat.reduceLeDiff, if_true, if_false, ↓reduceIte, forall_const, implies_true, reduceCtorEq, forall_eq_or_imp, forall_eq, ne_eq]
  refine V_callT mixed (cap := []) [0]  ( l_markQuotaS f.quotas k (by omega)) (by simp (maxSteps := 2000000) only [↓ctl, evl, val, valP, own, app, wrt, tys, Try.ntmps11, Try.results11, ↓V_convert, ↓V_bytes, stdl, cond_true, cond_false, Nat.reduceEqDiff, Nat.reduceAdd, Nat.reduceMul, Nat.reduceSub, Nat.reduceLT, Int.reduceEq, Int.reduceLT, Int.reduceLE, Int.reduceNeg, Nat.reduceLeDiff, if_true, if_false, ↓reduceIte, forall_const, implies_true, reduceCtorEq, forall_eq_or_imp, forall_eq, ne_eq]) (by decide) (by simp (maxSteps := 2000000) only [↓ctl, evl, val, valP, own, app, wrt, tys, Try.ntmps11, Try.results11, ↓V_convert, ↓V_bytes, stdl, cond_true, cond_false, Nat.reduceEqDiff, Nat.reduceAdd, Nat.reduceMul, Nat.reduceSub, Nat.reduceLT, Int.reduceEq, Int.reduceLT, Int.reduceLE, Int.reduceNeg, Nat.reduceLeDiff, if_true, if_false, ↓reduceIte, forall_const, implies_true, reduceCtorEq, forall_eq_or_imp, forall_eq, ne_eq]) (by simp (maxSteps := 2000000) only [↓ctl, evl, val, valP, own, app, wrt, tys, Try.ntmps11, Try.results11, ↓V_convert, ↓V_bytes, stdl, cond_true, cond_false, Nat.reduceEqDiff, Nat.reduceAdd, Nat.reduceMul, Nat.reduceSub, Nat.reduceLT, Int.reduceEq, Int.reduceLT, Int.reduceLE, Int.reduceNeg, Nat.reduceLeDiff, if_true, if_false, ↓reduceIte, forall_const, implies_true, reduceCtorEq, forall_eq_or_imp, forall_eq, ne_eq]) trivial ?_
  simp (maxSteps := 2000000) only [↓ctl, evl, val, valP, own, app, wrt, tys, Try.ntmps11, Try.results11, ↓V_convert, ↓V_bytes, stdl, cond_true, cond_false, Nat.reduceEqDiff, Nat.reduceAdd, Nat.reduceMul, Nat.reduceSub, Nat.reduceLT, Int.reduceEq, Int.reduceLT, Int.reduceLE, Int.reduceNeg, Nat.reduceLeDiff, if_true, if_false, ↓reduceIte, forall_const, implies_true, reduceCtorEq, forall_eq_or_imp, forall_eq, ne_eq]
  refine V_callT mixed (cap := []) [1]  ( l_markInodeS f.inodes (k + 2 * f.quotas.length) (by omega) (by omega)) (by simp (maxSteps := 2000000) only [↓ctl, evl, val, valP, own, app, wrt, tys, Try.ntmps11, Try.results11, ↓V_convert, ↓V_bytes, stdl, cond_true, cond_false, Nat.reduceEqDiff, Nat.reduceAdd, Nat.reduceMul, Nat.reduceSub, Nat.reduceLT, Int.reduceEq, Int.reduceLT, Int.reduceLE, Int.reduceNeg, Nat.reduceLeDiff, if_true, if_false, ↓reduceIte, forall_const, implies_true, reduceCtorEq, forall_eq_or_imp, forall_eq, ne_eq]) (by decide) (by simp (maxSteps := 2000000) only [↓ctl, evl, val, valP, own, app, wrt, tys, Try.ntmps11, Try.results11, ↓V_convert, ↓V_bytes, stdl, cond_true, cond_false, Nat.reduceEqDiff, Nat.reduceAdd, Nat.reduceMul, Nat.reduceSub, Nat.reduceLT, Int.reduceEq, Int.reduceLT, Int.reduceLE, Int.reduceNeg, Nat.reduceLeDiff, if_true, if_false, ↓reduceIte, forall_const, implies_true, reduceCtorEq, forall_eq_or_imp, forall_eq, ne_eq]) (by simp (maxSteps := 2000000) only [↓ctl, evl, val, valP, own, app, wrt, tys, Try.ntmps11, Try.results11, ↓V_convert, ↓V_bytes, stdl, cond_true, cond_false, Nat.reduceEqDiff, Nat.reduceAdd, Nat.reduceMul, Nat.reduceSub, Nat.reduceLT, Int.reduceEq, Int.reduceLT, Int.reduceLE, Int.reduceNeg, Nat.reduceLeDiff, if_true, if_false, ↓reduceIte, forall_const, implies_true, reduceCtorEq, forall_eq_or_imp, forall_eq, ne_eq]) trivial ?_
  simp (maxSteps := 2000000) only [↓ctl, evl, val, valP, own, app, wrt, tys, Try.ntmps11, Try.results11, ↓V_convert, ↓V_bytes, stdl, cond_true, cond_false, Nat.reduceEqDiff, Nat.reduceAdd, Nat.reduceMul, Nat.reduceSub, Nat.reduceLT, Int.reduceEq, Int.reduceLT, Int.reduceLE, Int.reduceNeg, Nat.reduceLeDiff, if_true, if_false, ↓reduceIte, forall_const, implies_true, reduceCtorEq, forall_eq_or_imp, forall_eq, ne_eq]
  refine V_callT mixed (cap := []) [2]  ( l_markStringS f.data (k + 2 * f.quotas.length + cntL f.inodes) (by omega) (by omega)) (by simp (maxSteps := 2000000) only [↓ctl, evl, val, valP, own, app, wrt, tys, Try.ntmps11, Try.results11, ↓V_convert, ↓V_bytes, stdl, cond_true, cond_false, Nat.reduceEqDiff, Nat.reduceAdd, Nat.reduceMul, Nat.reduceSub, Nat.reduceLT, Int.reduceEq, Int.reduceLT, Int.reduceLE, Int.reduceNeg, Nat.reduceLeDiff, if_true, if_false, ↓reduceIte, forall_const, implies_true, reduceCtorEq, forall_eq_or_imp, forall_eq, ne_eq]) (by decide) (by simp (maxSteps := 2000000) only [↓ctl, evl, val, valP, own, app, wrt, tys, Try.ntmps11, Try.results11, ↓V_convert, ↓V_bytes, stdl, cond_true, cond_false, Nat.reduceEqDiff, Nat.reduceAdd, Nat.reduceMul, Nat.reduceSub, Nat.reduceLT, Int.reduceEq, Int.reduceLT, Int.reduceLE, Int.reduceNeg, Nat.reduceLeDiff, if_true, if_false, ↓reduceIte, forall_const, implies_true, reduceCtorEq, forall_eq_or_imp, forall_eq, ne_eq]) (by simp (maxSteps := 2000000) only [↓ctl, evl, val, valP, own, app, wrt, tys, Try.ntmps11, Try.results11, ↓V_convert, ↓V_bytes, stdl, cond_true, cond_false, Nat.reduceEqDiff, Nat.reduceAdd, Nat.reduceMul, Nat.reduceSub, Nat.reduceLT, Int.reduceEq, Int.reduceLT, Int.reduceLE, Int.reduceNeg, Nat.reduceLeDiff, if_true, if_false, ↓reduceIte, forall_const, implies_true, reduceCtorEq, forall_eq_or_imp, forall_eq, ne_eq]) trivial ?_
  simp (maxSteps := 2000000) only [↓ctl, evl, val, valP, own, app, wrt, tys, Try.ntmps11, Try.results11, ↓V_convert, ↓V_bytes, stdl, cond_true, cond_false, Nat.reduceEqDiff, Nat.reduceAdd, Nat.reduceMul, Nat.reduceSub, Nat.reduceLT, Int.reduceEq, Int.reduceLT, Int.reduceLE, Int.reduceNeg, Nat.reduceLeDiff, if_true, if_false, ↓reduceIte, forall_const, implies_true, reduceCtorEq, forall_eq_or_imp, forall_eq, ne_eq]
end Go.Proofs.Ytobnbajakenbeaa


/- Contracts: the blocks in use, valid file systems: the reference's.  -/
set_option linter.all false
set_option maxRecDepth 10000
set_option maxHeartbeats 4000000
namespace Go.Proofs.Ytobnbajakenbeaa
open Go Go.Eng

def useB (uid : Int) (used : List Bool) (b : Int) : Option (List Bool) := if b = -1 then some used else if owner b = uid ∧ used.getD b.toNat default = false then some (used.set b.toNat true) else none
def useBs (uid : Int) : List Bool → List Int → Option (List Bool)
  | used, [] => some used
  | used, b :: r => (useB uid used b).bind fun u => useBs uid u r
def useNs : List Bool → List Inode → Option (List Bool)
  | used, [] => some used
  | used, n :: r => (useBs n.uid used n.blocks).bind fun u => useNs u r
def none0 : List Bool := List.replicate 56 false
theorem useBs_step {uid : Int} {used : List Bool} {l : List Int} {j : Nat} (h : j < l.length) : useBs uid used (l.drop j) = (useB uid used (l.getD j default)).bind fun u => useBs uid u (l.drop (j + 1)) := by
  rw [drop_getD default h]; rfl
theorem useNs_step {used : List Bool} {l : List Inode} {i : Nat} (h : i < l.length) : useNs used (l.drop i) = (useBs (l.getD i default).uid used (l.getD i default).blocks).bind fun u => useNs u (l.drop (i + 1)) := by
  rw [drop_getD default h]; rfl
theorem owner_in {b uid : Int} (h : owner b = uid) (h0 : 0 ≤ uid) : 0 ≤ b ∧ b < 56 := by
  unfold owner inR at h
  split at h
  · rename_i hb
    simp only [Bool.and_eq_true, decide_eq_true_eq] at hb
    omega
  · omega
theorem isInode_uid {n : Inode} (h : isInode n = true) : 0 ≤ n.uid := by
  unfold isInode at h
  split at h
  · have : n = default := by simpa using h
    subst this; decide
  · simp only [Bool.and_eq_true] at h
    obtain ⟨⟨⟨⟨h1, _⟩, _⟩, _⟩, _⟩ := h
    unfold inodeHead isUser inR at h1
    simp only [Bool.and_eq_true, decide_eq_true_eq] at h1
    omega
def resU : Option (List Bool) → AV
  | some _ => .tup [.sl 1 1 0 56, Bo true]
  | none => .tup [.v (.slice none 0 0), Bo false]
def heapU : Option (List Bool) → Heap
  | some u => [(1, .row 4 1 (u.map boolRow))]
  | none => []
theorem resU_some (u : List Bool) : resU (some u) = .tup [.sl 1 1 0 56, Bo true] := rfl
theorem resU_none : resU none = .tup [.v (.slice none 0 0), Bo false] := rfl
theorem heapU_some (u : List Bool) : heapU (some u) = [(1, .row 4 1 (u.map boolRow))] := rfl
theorem heapU_none : heapU none = [] := rfl
theorem d_l08Used (f : FS) (hv : ∀ n ∈ f.inodes, isInode n = true) (hi20 : f.inodes.length ≤ 1099511627776) (hb : ∀ n ∈ f.inodes, n.blocks.length ≤ 1099511627776) : Reads Go.Proofs.Try.prog 47 [fsAV f] (resU (useNs none0 f.inodes)) (heapU (useNs none0 f.inodes)) 2 := by
  refine reads_of_V mixed Go.Proofs.Try.call47 Go.Proofs.Try.func47 rfl (by rw [Go.Proofs.Try.ntmps47]; simp) ?_
  simp (maxSteps := 2000000) only [↓ctl, evl, val, valP, own, app, wrt, tys, Try.ntmps47, Try.results47, ↓V_convert, ↓V_bytes, stdl, cond_true, cond_false, Nat.reduceEqDiff, Nat.reduceAdd, Nat.reduceMul, Nat.reduceSub, Nat.reduceLT, Int.reduceEq, Int.reduceLT, Int.reduceLE, Int.reduceNeg, Nat.reduceLeDiff, if_true, if_false, ↓reduceIte, forall_const, implies_true, reduceCtorEq, forall_eq_or_imp, forall_eq, ne_eq, fsAV]
  have hrep : List.replicate 56 [Cell.v (.bool false)] = none0.map boolRow := by unfold none0; simp [boolRow]
  refine V_loopI mixed (ι := {p : Nat × List Bool // p.1 ≤ f.inodes.length ∧ p.2.length = 56 ∧ useNs none0 f.inodes = useNs p.2 (f.inodes.drop p.1)}) (fun p => ⟨[(1, true, .ptr 0 0 0 0), (4, true, .sl 1 1 0 56), (11, true, .rd 10 (f.inodes.map inodeRow)), (12, true, I f.inodes.length), (13, true, I p.1.1)], [(1, .row 4 1 (p.1.2.map boolRow)), (0, .box 32 [I f.tick, .rd 2 (f.quotas.map quotaRow), .rd 10 (f.inodes.map inodeRow), .rd 1 (f.data.map strRow)])], 2, 43⟩) (fun p => f.inodes.length - p.1.1) ⟨(0, none0), by simp [none0]⟩ ?_ ?_ ?_
  · refine weakI ?_
    simp (maxSteps := 2000000) only [↓ctl, evl, val, valP, own, app, wrt, tys, Try.ntmps47, Try.results47, ↓V_convert, ↓V_bytes, stdl, cond_true, cond_false, Nat.reduceEqDiff, Nat.reduceAdd, Nat.reduceMul, Nat.reduceSub, Nat.reduceLT, Int.reduceEq, Int.reduceLT, Int.reduceLE, Int.reduceNeg, Nat.reduceLeDiff, if_true, if_false, ↓reduceIte, forall_const, implies_true, reduceCtorEq, forall_eq_or_imp, forall_eq, ne_eq]
    exact ⟨⟨rfl, rfl⟩, congrArg (Chunk.row _ _) hrep⟩
  · trivial
  · rintro ⟨⟨i, used⟩, hi, hl, hx⟩
    simp only at hi hl hx
    by_cases hlt : i < f.inodes.length
    · have hm : f.inodes.getD i default ∈ f.inodes := by rw [getD_get _ i _ hlt]; exact List.getElem_mem hlt
      have hbl := hb _ hm
      have huid := isInode_uid (hv _ hm)
      have hst := useNs_step (used := used) hlt
      generalize hn : f.inodes.getD i default = n at *
      simp (maxSteps := 2000000) only [↓ctl, evl, val, valP, own, app, wrt, tys, Try.ntmps47, Try.results47, ↓V_convert, ↓V_bytes, stdl, cond_true, cond_false, Nat.reduceEqDiff, Nat.reduceAdd, Nat.reduceMul, Nat.reduceSub, Nat.reduceLT, Int.reduceEq, Int.reduceLT, Int.reduceLE, Int.reduceNeg, Nat.reduceLeDiff, if_true, if_false, ↓reduceIte, forall_const, implies_true, reduceCtorEq, forall_eq_or_imp, forall_eq, ne_eq, hlt, hn, inodeRow_e, ints_map, acls_map]
      refine V_loopI mixed (ι := {p : Nat × List Bool // p.1 ≤ n.blocks.length ∧ p.2.length = 56 ∧ useNs none0 f.inodes = (useBs n.uid p.2 (n.blocks.drop p.1)).bind fun u => useNs u (f.inodes.drop (i + 1))}) (fun p => ⟨[(1, true, .ptr 0 0 0 0), (4, true, .sl 1 1 0 56), (11, true, .rd 10 (f.inodes.map inodeRow)), (12, true, I f.inodes.length), (13, true, I i), (6, true, .ptr 2 0 0 0), (18, true, .rd 1 (n.blocks.map intRow)), (19, true, I n.blocks.length), (20, true, I p.1.1)], [(2, .box 54 [I n.kind, I n.mode, I n.uid, I n.gid, I n.links, I n.size, I n.tick, .rd 1 (n.blocks.map intRow), .rd 3 (n.acl.map aclRow), .rd 3 (n.dflt.map aclRow)]), (1, .row 4 1 (p.1.2.map boolRow)), (0, .box 32 [I f.tick, .rd 2 (f.quotas.map quotaRow), .rd 10 (f.inodes.map inodeRow), .rd 1 (f.data.map strRow)])], 3, 43⟩) (fun p => n.blocks.length - p.1.1) ⟨(0, used), by simp only [List.drop_zero]; exact ⟨by omega, hl, hx.trans hst⟩⟩ ?_ ?_ ?_
      · refine weakI ?_
        simp (maxSteps := 2000000) only [↓ctl, evl, val, valP, own, app, wrt, tys, Try.ntmps47, Try.results47, ↓V_convert, ↓V_bytes, stdl, cond_true, cond_false, Nat.reduceEqDiff, Nat.reduceAdd, Nat.reduceMul, Nat.reduceSub, Nat.reduceLT, Int.reduceEq, Int.reduceLT, Int.reduceLE, Int.reduceNeg, Nat.reduceLeDiff, if_true, if_false, ↓reduceIte, forall_const, implies_true, reduceCtorEq, forall_eq_or_imp, forall_eq, ne_eq]
        try rfl
      · trivial
      · rintro ⟨⟨j, us⟩, hj, hul, hy⟩
        simp only at hj hul hy
        by_cases hjl : j < n.blocks.length
        · have hbs := useBs_step (uid := n.uid) (used := us) hjl
          generalize hbb : n.blocks.getD j default = b at *
          by_cases hb1 : b = -1
          · subst hb1
            simp (maxSteps := 2000000) only [↓ctl, evl, val, valP, own, app, wrt, tys, Try.ntmps47, Try.results47, ↓V_convert, ↓V_bytes, stdl, cond_true, cond_false, Nat.reduceEqDiff, Nat.reduceAdd, Nat.reduceMul, Nat.reduceSub, Nat.reduceLT, Int.reduceEq, Int.reduceLT, Int.reduceLE, Int.reduceNeg, Nat.reduceLeDiff, if_true, if_false, ↓reduceIte, forall_const, implies_true, reduceCtorEq, forall_eq_or_imp, forall_eq, ne_eq, hjl, hbb]
            refine V_backI ⟨(j + 1, us), ?_⟩ (by show _ - (j + 1) < _; omega) (weakI ?_)
            · refine ⟨by simp only; omega, hul, ?_⟩
              rw [hy, hbs]; simp [useB]
            · simp (maxSteps := 2000000) only [↓ctl, evl, val, valP, own, app, wrt, tys, Try.ntmps47, Try.results47, ↓V_convert, ↓V_bytes, stdl, cond_true, cond_false, Nat.reduceEqDiff, Nat.reduceAdd, Nat.reduceMul, Nat.reduceSub, Nat.reduceLT, Int.reduceEq, Int.reduceLT, Int.reduceLE, Int.reduceNeg, Nat.reduceLeDiff, if_true, if_false, ↓reduceIte, forall_const, implies_true, reduceCtorEq, forall_eq_or_imp, forall_eq, ne_eq]
              rw [wrap_id (by omega) (by omega)]
              rfl
          · simp (maxSteps := 2000000) only [↓ctl, evl, val, valP, own, app, wrt, tys, Try.ntmps47, Try.results47, ↓V_convert, ↓V_bytes, stdl, cond_true, cond_false, Nat.reduceEqDiff, Nat.reduceAdd, Nat.reduceMul, Nat.reduceSub, Nat.reduceLT, Int.reduceEq, Int.reduceLT, Int.reduceLE, Int.reduceNeg, Nat.reduceLeDiff, if_true, if_false, ↓reduceIte, forall_const, implies_true, reduceCtorEq, forall_eq_or_imp, forall_eq, ne_eq, hjl, hbb, hb1]
            refine ⟨by kernel_rfl, ?_⟩
            refine V_callF mixed (cap := []) (fun _ => d_BlockOwner b) (by simp (maxSteps := 2000000) (contextual := true) only [↓ctl, evl, val, valP, own, app, wrt, tys, Try.ntmps47, Try.results47, ↓V_convert, ↓V_bytes, stdl, cond_true, cond_false, Nat.reduceEqDiff, Nat.reduceAdd, Nat.reduceMul, Nat.reduceSub, Nat.reduceLT, Int.reduceEq, Int.reduceLT, Int.reduceLE, Int.reduceNeg, Nat.reduceLeDiff, if_true, if_false, ↓reduceIte, forall_const, implies_true, reduceCtorEq, forall_eq_or_imp, forall_eq, ne_eq]) (by simp (maxSteps := 2000000) (contextual := true) only [↓ctl, evl, val, valP, own, app, wrt, tys, Try.ntmps47, Try.results47, ↓V_convert, ↓V_bytes, stdl, cond_true, cond_false, Nat.reduceEqDiff, Nat.reduceAdd, Nat.reduceMul, Nat.reduceSub, Nat.reduceLT, Int.reduceEq, Int.reduceLT, Int.reduceLE, Int.reduceNeg, Nat.reduceLeDiff, if_true, if_false, ↓reduceIte, forall_const, implies_true, reduceCtorEq, forall_eq_or_imp, forall_eq, ne_eq]) (by simp (maxSteps := 2000000) (contextual := true) only [↓ctl, evl, val, valP, own, app, wrt, tys, Try.ntmps47, Try.results47, ↓V_convert, ↓V_bytes, stdl, cond_true, cond_false, Nat.reduceEqDiff, Nat.reduceAdd, Nat.reduceMul, Nat.reduceSub, Nat.reduceLT, Int.reduceEq, Int.reduceLT, Int.reduceLE, Int.reduceNeg, Nat.reduceLeDiff, if_true, if_false, ↓reduceIte, forall_const, implies_true, reduceCtorEq, forall_eq_or_imp, forall_eq, ne_eq]) trivial ?_
            by_cases ho : owner b = n.uid
            · obtain ⟨o1, o2⟩ := owner_in ho huid
              have o3 : b.toNat < us.length := by omega
              simp (maxSteps := 2000000) only [↓ctl, evl, val, valP, own, app, wrt, tys, Try.ntmps47, Try.results47, ↓V_convert, ↓V_bytes, stdl, cond_true, cond_false, Nat.reduceEqDiff, Nat.reduceAdd, Nat.reduceMul, Nat.reduceSub, Nat.reduceLT, Int.reduceEq, Int.reduceLT, Int.reduceLE, Int.reduceNeg, Nat.reduceLeDiff, if_true, if_false, ↓reduceIte, forall_const, implies_true, reduceCtorEq, forall_eq_or_imp, forall_eq, ne_eq, ho, o1, o2, o3]
              refine ⟨by omega, fun h => ?_, fun h => ⟨by omega, V_backI ⟨(j + 1, us.set b.toNat true), ?_⟩ (by show _ - (j + 1) < _; omega) (weakI ?_)⟩⟩
              · have hB : useB n.uid us b = none := by unfold useB; rw [if_neg hb1, if_neg (fun h' => by rw [h] at h'; exact absurd h'.2 (by simp))]
                rw [hbs, hB] at hy
                have hy : useNs none0 f.inodes = none := hy
                rw [hy]
                simp (maxSteps := 2000000) only [↓ctl, evl, val, valP, own, app, wrt, tys, Try.ntmps47, Try.results47, ↓V_convert, ↓V_bytes, stdl, cond_true, cond_false, Nat.reduceEqDiff, Nat.reduceAdd, Nat.reduceMul, Nat.reduceSub, Nat.reduceLT, Int.reduceEq, Int.reduceLT, Int.reduceLE, Int.reduceNeg, Nat.reduceLeDiff, if_true, if_false, ↓reduceIte, forall_const, implies_true, reduceCtorEq, forall_eq_or_imp, forall_eq, ne_eq, resU_none, heapU_none]
              · refine ⟨by simp only; omega, by simp only [List.length_set]; exact hul, ?_⟩
                have hB : useB n.uid us b = some (us.set b.toNat true) := by unfold useB; rw [if_neg hb1, if_pos ⟨ho, h⟩]
                rw [hy, hbs, hB]; rfl
              · simp (maxSteps := 2000000) only [↓ctl, evl, val, valP, own, app, wrt, tys, Try.ntmps47, Try.results47, ↓V_convert, ↓V_bytes, stdl, cond_true, cond_false, Nat.reduceEqDiff, Nat.reduceAdd, Nat.reduceMul, Nat.reduceSub, Nat.reduceLT, Int.reduceEq, Int.reduceLT, Int.reduceLE, Int.reduceNeg, Nat.reduceLeDiff, if_true, if_false, ↓reduceIte, forall_const, implies_true, reduceCtorEq, forall_eq_or_imp, forall_eq, ne_eq]
                rw [wrap_id (by omega) (by omega)]
                exact ⟨rfl, congrArg (Chunk.row _ _) (set_map_fn boolRow us b.toNat true)⟩
            · have ho' : (owner b == n.uid) = false := beq_eq_false_iff_ne.2 ho
              simp (maxSteps := 2000000) only [↓ctl, evl, val, valP, own, app, wrt, tys, Try.ntmps47, Try.results47, ↓V_convert, ↓V_bytes, stdl, cond_true, cond_false, Nat.reduceEqDiff, Nat.reduceAdd, Nat.reduceMul, Nat.reduceSub, Nat.reduceLT, Int.reduceEq, Int.reduceLT, Int.reduceLE, Int.reduceNeg, Nat.reduceLeDiff, if_true, if_false, ↓reduceIte, forall_const, implies_true, reduceCtorEq, forall_eq_or_imp, forall_eq, ne_eq, ho, ho']
              have hB : useB n.uid us b = none := by unfold useB; rw [if_neg hb1, if_neg (fun h => ho h.1)]
              rw [hbs, hB] at hy
              have hy : useNs none0 f.inodes = none := hy
              rw [hy]
              simp (maxSteps := 2000000) only [↓ctl, evl, val, valP, own, app, wrt, tys, Try.ntmps47, Try.results47, ↓V_convert, ↓V_bytes, stdl, cond_true, cond_false, Nat.reduceEqDiff, Nat.reduceAdd, Nat.reduceMul, Nat.reduceSub, Nat.reduceLT, Int.reduceEq, Int.reduceLT, Int.reduceLE, Int.reduceNeg, Nat.reduceLeDiff, if_true, if_false, ↓reduceIte, forall_const, implies_true, reduceCtorEq, forall_eq_or_imp, forall_eq, ne_eq, resU_none, heapU_none]
        · simp (maxSteps := 2000000) only [↓ctl, evl, val, valP, own, app, wrt, tys, Try.ntmps47, Try.results47, ↓V_convert, ↓V_bytes, stdl, cond_true, cond_false, Nat.reduceEqDiff, Nat.reduceAdd, Nat.reduceMul, Nat.reduceSub, Nat.reduceLT, Int.reduceEq, Int.reduceLT, Int.reduceLE, Int.reduceNeg, Nat.reduceLeDiff, if_true, if_false, ↓reduceIte, forall_const, implies_true, reduceCtorEq, forall_eq_or_imp, forall_eq, ne_eq, hjl]
          have hend : useBs n.uid us (n.blocks.drop j) = some us := by rw [drop_end _ _ hjl]; rfl
          rw [hend] at hy
          refine V_backI ⟨(i + 1, us), by simp only; omega, hul, hy⟩ (by show _ - (i + 1) < _; omega) (weakI ?_)
          simp (maxSteps := 2000000) only [↓ctl, evl, val, valP, own, app, wrt, tys, Try.ntmps47, Try.results47, ↓V_convert, ↓V_bytes, stdl, cond_true, cond_false, Nat.reduceEqDiff, Nat.reduceAdd, Nat.reduceMul, Nat.reduceSub, Nat.reduceLT, Int.reduceEq, Int.reduceLT, Int.reduceLE, Int.reduceNeg, Nat.reduceLeDiff, if_true, if_false, ↓reduceIte, forall_const, implies_true, reduceCtorEq, forall_eq_or_imp, forall_eq, ne_eq]
          rw [wrap_id (by omega) (by omega)]
          rfl
    · simp (maxSteps := 2000000) only [↓ctl, evl, val, valP, own, app, wrt, tys, Try.ntmps47, Try.results47, ↓V_convert, ↓V_bytes, stdl, cond_true, cond_false, Nat.reduceEqDiff, Nat.reduceAdd, Nat.reduceMul, Nat.reduceSub, Nat.reduceLT, Int.reduceEq, Int.reduceLT, Int.reduceLE, Int.reduceNeg, Nat.reduceLeDiff, if_true, if_false, ↓reduceIte, forall_const, implies_true, reduceCtorEq, forall_eq_or_imp, forall_eq, ne_eq, hlt]
      have hend : useNs used (f.inodes.drop i) = some used := by rw [drop_end _ _ hlt]; rfl
      rw [hx, hend]
      simp (maxSteps := 2000000) only [↓ctl, evl, val, valP, own, app, wrt, tys, Try.ntmps47, Try.results47, ↓V_convert, ↓V_bytes, stdl, cond_true, cond_false, Nat.reduceEqDiff, Nat.reduceAdd, Nat.reduceMul, Nat.reduceSub, Nat.reduceLT, Int.reduceEq, Int.reduceLT, Int.reduceLE, Int.reduceNeg, Nat.reduceLeDiff, if_true, if_false, ↓reduceIte, forall_const, implies_true, reduceCtorEq, forall_eq_or_imp, forall_eq, ne_eq, resU_some, heapU_some]

/-! ### valid file systems -/
def qOk (q : Quota) : Bool := inR q.inodes 0 5 && inR q.blocks 0 14
def tailOk (data : List (List UInt8)) (n : Inode) : Bool :=
  if n.blocks.length = 0 then true else if n.blocks.getD (n.blocks.length - 1) default = -1 then true
  else zeroes ((data.getD (n.blocks.getD (n.blocks.length - 1) default).toNat default).drop (n.size - (n.blocks.length - 1) * 32).toNat)
def freeOk : List Bool → List (List UInt8) → Bool
  | u :: us, s :: ss => (u || zeroes s) && freeOk us ss
  | _, _ => true
theorem freeOk_step {us : List Bool} {ss : List (List UInt8)} {i : Nat} (h : i < ss.length) (hl : us.length = ss.length) : freeOk (us.drop i) (ss.drop i) = ((us.getD i default || zeroes (ss.getD i default)) && freeOk (us.drop (i + 1)) (ss.drop (i + 1))) := by
  rw [drop_getD default h, drop_getD default (show i < us.length by omega)]; rfl
theorem freeOk_end {us : List Bool} {ss : List (List UInt8)} {i : Nat} (h : ¬ i < ss.length) : freeOk (us.drop i) (ss.drop i) = true := by
  rw [drop_end _ _ h]; cases us.drop i <;> rfl
def headFS (f : FS) : Bool := inR f.tick 0 1000000000 && decide ((f.quotas.length : Int) = 4) && decide ((f.inodes.length : Int) = 20) && decide ((f.data.length : Int) = 56)
theorem headFS_len {f : FS} (h : headFS f = true) : f.quotas.length = 4 ∧ f.inodes.length = 20 ∧ f.data.length = 56 := by
  unfold headFS at h
  simp only [Bool.and_eq_true, decide_eq_true_eq] at h
  omega
def isFS (f : FS) : Bool := headFS f && f.quotas.all qOk && f.inodes.all isInode && (f.inodes.getD 0 default).kind == 2 &&
  (match useNs none0 f.inodes with | none => false | some u => f.data.all (fun s => decide ((s.length : Int) = 32)) && freeOk u f.data && f.inodes.all (tailOk f.data))
theorem useBs_len {uid : Int} : ∀ {l : List Int} {us u : List Bool}, useBs uid us l = some u → u.length = us.length
  | [], us, u, h => by simp only [useBs, Option.some.injEq] at h; rw [h]
  | b :: l, us, u, h => by
    simp only [useBs, Option.bind_eq_some_iff] at h
    obtain ⟨v, h1, h2⟩ := h
    rw [useBs_len h2]
    unfold useB at h1
    split at h1
    · simp only [Option.some.injEq] at h1; rw [h1]
    · split at h1
      · simp only [Option.some.injEq] at h1; rw [← h1]; simp
      · cases h1
theorem useNs_len : ∀ {l : List Inode} {us u : List Bool}, useNs us l = some u → u.length = us.length
  | [], us, u, h => by simp only [useNs, Option.some.injEq] at h; rw [h]
  | n :: l, us, u, h => by
    simp only [useNs, Option.bind_eq_some_iff] at h
    obtain ⟨v, h1, h2⟩ := h
    rw [useNs_len h2, useBs_len h1]
theorem useBs_in {uid : Int} (h0 : 0 ≤ uid) : ∀ {l : List Int} {us u : List Bool}, useBs uid us l = some u → ∀ b ∈ l, b ≠ -1 → 0 ≤ b ∧ b < 56
  | [], _, _, _, b, hb, _ => by simp at hb
  | x :: l, us, u, h, b, hb, hne => by
    simp only [useBs, Option.bind_eq_some_iff] at h
    obtain ⟨v, h1, h2⟩ := h
    rcases List.mem_cons.1 hb with rfl | hb
    · unfold useB at h1
      rw [if_neg hne] at h1
      split at h1
      · rename_i hc; exact owner_in hc.1 h0
      · cases h1
    · exact useBs_in h0 h2 b hb hne
theorem useNs_in : ∀ {l : List Inode} {us u : List Bool}, useNs us l = some u → (∀ n ∈ l, isInode n = true) → ∀ n ∈ l, ∀ b ∈ n.blocks, b ≠ -1 → 0 ≤ b ∧ b < 56
  | [], _, _, _, _, n, hn => by simp at hn
  | x :: l, us, u, h, hv, n, hn => by
    simp only [useNs, Option.bind_eq_some_iff] at h
    obtain ⟨v, h1, h2⟩ := h
    rcases List.mem_cons.1 hn with rfl | hn
    · exact useBs_in (isInode_uid (hv _ (by simp))) h1
    · exact useNs_in h2 (fun n hn => hv n (by simp [hn])) n hn
end Go.Proofs.Ytobnbajakenbeaa


/- Contracts: valid file systems: the reference's test.  -/
set_option linter.all false
set_option maxRecDepth 10000
set_option maxHeartbeats 4000000
namespace Go.Proofs.Ytobnbajakenbeaa
open Go Go.Eng

/-- What a file system's numbers and lengths are within, whatever it holds. -/
structure FS.ok (f : FS) : Prop where
  quotas : f.quotas.length ≤ 1048576
  inodes : f.inodes.length ≤ 1048576
  data : f.data.length ≤ 1048576
  nodes : ∀ n ∈ f.inodes, n.sml ∧ In64 n.size
  texts : ∀ s ∈ f.data, s.length ≤ 1048576
theorem Inode.sml.fits {n : Inode} (h : n.sml) : n.fits := ⟨Nat.le_trans h.1 (by decide), Nat.le_trans h.2.1 (by decide), Nat.le_trans h.2.2 (by decide)⟩
theorem isInode_size {n : Inode} (h : isInode n = true) : 0 ≤ n.size ∧ n.size ≤ 256 ∧ (n.blocks.length : Int) = need n.size := by
  unfold isInode at h
  split at h
  · have : n = default := by simpa using h
    subst this; decide
  · simp only [Bool.and_eq_true] at h
    obtain ⟨⟨⟨⟨h1, _⟩, _⟩, _⟩, _⟩ := h
    unfold inodeHead inR at h1
    simp only [Bool.and_eq_true, decide_eq_true_eq, beq_iff_eq] at h1
    omega
theorem d_IsFS (f : FS) (hk : f.ok) : Gives Go.Proofs.Try.prog 21 [fsAV f] (.bool (isFS f)) := by
  refine gives_of_V mixed Go.Proofs.Try.call21 Go.Proofs.Try.func21 rfl (by rw [Go.Proofs.Try.ntmps21]; simp) ?_
  simp (maxSteps := 2000000) only [↓ctl, evl, val, valP, own, app, wrt, tys, Try.ntmps21, Try.results21, ↓V_convert, ↓V_bytes, stdl, cond_true, cond_false, Nat.reduceEqDiff, Nat.reduceAdd, Nat.reduceMul, Nat.reduceSub, Nat.reduceLT, Int.reduceEq, Int.reduceLT, Int.reduceLE, Int.reduceNeg, Nat.reduceLeDiff, if_true, if_false, ↓reduceIte, forall_const, implies_true, reduceCtorEq, forall_eq_or_imp, forall_eq, ne_eq, fsAV]
  refine V_callF mixed (cap := []) (fun _ => d_l01In f.tick 0 1000000000) (by simp (maxSteps := 2000000) (contextual := true) only [↓ctl, evl, val, valP, own, app, wrt, tys, Try.ntmps21, Try.results21, ↓V_convert, ↓V_bytes, stdl, cond_true, cond_false, Nat.reduceEqDiff, Nat.reduceAdd, Nat.reduceMul, Nat.reduceSub, Nat.reduceLT, Int.reduceEq, Int.reduceLT, Int.reduceLE, Int.reduceNeg, Nat.reduceLeDiff, if_true, if_false, ↓reduceIte, forall_const, implies_true, reduceCtorEq, forall_eq_or_imp, forall_eq, ne_eq]) (by simp (maxSteps := 2000000) (contextual := true) only [↓ctl, evl, val, valP, own, app, wrt, tys, Try.ntmps21, Try.results21, ↓V_convert, ↓V_bytes, stdl, cond_true, cond_false, Nat.reduceEqDiff, Nat.reduceAdd, Nat.reduceMul, Nat.reduceSub, Nat.reduceLT, Int.reduceEq, Int.reduceLT, Int.reduceLE, Int.reduceNeg, Nat.reduceLeDiff, if_true, if_false, ↓reduceIte, forall_const, implies_true, reduceCtorEq, forall_eq_or_imp, forall_eq, ne_eq]) (by simp (maxSteps := 2000000) (contextual := true) only [↓ctl, evl, val, valP, own, app, wrt, tys, Try.ntmps21, Try.results21, ↓V_convert, ↓V_bytes, stdl, cond_true, cond_false, Nat.reduceEqDiff, Nat.reduceAdd, Nat.reduceMul, Nat.reduceSub, Nat.reduceLT, Int.reduceEq, Int.reduceLT, Int.reduceLE, Int.reduceNeg, Nat.reduceLeDiff, if_true, if_false, ↓reduceIte, forall_const, implies_true, reduceCtorEq, forall_eq_or_imp, forall_eq, ne_eq]) trivial ?_
  simp (maxSteps := 2000000) only [↓ctl, evl, val, valP, own, app, wrt, tys, Try.ntmps21, Try.results21, ↓V_convert, ↓V_bytes, stdl, cond_true, cond_false, Nat.reduceEqDiff, Nat.reduceAdd, Nat.reduceMul, Nat.reduceSub, Nat.reduceLT, Int.reduceEq, Int.reduceLT, Int.reduceLE, Int.reduceNeg, Nat.reduceLeDiff, if_true, if_false, ↓reduceIte, forall_const, implies_true, reduceCtorEq, forall_eq_or_imp, forall_eq, ne_eq]
  refine ⟨fun h => ?_, fun h => ?_⟩
  · have : headFS f = false := by unfold headFS; grind
    simp only [isFS, this, Bool.false_and]
  have hH : headFS f = true := by unfold headFS; grind
  obtain ⟨l4, l20, l56⟩ := headFS_len hH
  refine V_loopI mixed (ι := {i : Nat // i ≤ f.quotas.length ∧ f.quotas.all qOk = (f.quotas.drop i).all qOk}) (fun i => ⟨[(1, true, .ptr 0 0 0 0), (37, true, .rd 2 (f.quotas.map quotaRow)), (38, true, I f.quotas.length), (39, true, I i.1)], [(0, .box 32 [I f.tick, .rd 2 (f.quotas.map quotaRow), .rd 10 (f.inodes.map inodeRow), .rd 1 (f.data.map strRow)])], 1, 143⟩) (fun i => f.quotas.length - i.1)  ⟨0, by simp⟩ ?_ ?_ ?_
  · refine weakI ?_
    simp (maxSteps := 2000000) only [↓ctl, evl, val, valP, own, app, wrt, tys, Try.ntmps21, Try.results21, ↓V_convert, ↓V_bytes, stdl, cond_true, cond_false, Nat.reduceEqDiff, Nat.reduceAdd, Nat.reduceMul, Nat.reduceSub, Nat.reduceLT, Int.reduceEq, Int.reduceLT, Int.reduceLE, Int.reduceNeg, Nat.reduceLeDiff, if_true, if_false, ↓reduceIte, forall_const, implies_true, reduceCtorEq, forall_eq_or_imp, forall_eq, ne_eq]
    try rfl
  · trivial
  rintro ⟨i, hi, hx⟩
  by_cases hlt : i < f.quotas.length
  · have hst := all_drop (p := qOk) default hlt
    simp (maxSteps := 2000000) only [↓ctl, evl, val, valP, own, app, wrt, tys, Try.ntmps21, Try.results21, ↓V_convert, ↓V_bytes, stdl, cond_true, cond_false, Nat.reduceEqDiff, Nat.reduceAdd, Nat.reduceMul, Nat.reduceSub, Nat.reduceLT, Int.reduceEq, Int.reduceLT, Int.reduceLE, Int.reduceNeg, Nat.reduceLeDiff, if_true, if_false, ↓reduceIte, forall_const, implies_true, reduceCtorEq, forall_eq_or_imp, forall_eq, ne_eq, hlt, quotaRow_e]
    refine V_callF mixed (cap := []) (fun _ => d_l01In (f.quotas.getD i default).inodes 0 5) (by simp (maxSteps := 2000000) (contextual := true) only [↓ctl, evl, val, valP, own, app, wrt, tys, Try.ntmps21, Try.results21, ↓V_convert, ↓V_bytes, stdl, cond_true, cond_false, Nat.reduceEqDiff, Nat.reduceAdd, Nat.reduceMul, Nat.reduceSub, Nat.reduceLT, Int.reduceEq, Int.reduceLT, Int.reduceLE, Int.reduceNeg, Nat.reduceLeDiff, if_true, if_false, ↓reduceIte, forall_const, implies_true, reduceCtorEq, forall_eq_or_imp, forall_eq, ne_eq]) (by simp (maxSteps := 2000000) (contextual := true) only [↓ctl, evl, val, valP, own, app, wrt, tys, Try.ntmps21, Try.results21, ↓V_convert, ↓V_bytes, stdl, cond_true, cond_false, Nat.reduceEqDiff, Nat.reduceAdd, Nat.reduceMul, Nat.reduceSub, Nat.reduceLT, Int.reduceEq, Int.reduceLT, Int.reduceLE, Int.reduceNeg, Nat.reduceLeDiff, if_true, if_false, ↓reduceIte, forall_const, implies_true, reduceCtorEq, forall_eq_or_imp, forall_eq, ne_eq]) (by simp (maxSteps := 2000000) (contextual := true) only [↓ctl, evl, val, valP, own, app, wrt, tys, Try.ntmps21, Try.results21, ↓V_convert, ↓V_bytes, stdl, cond_true, cond_false, Nat.reduceEqDiff, Nat.reduceAdd, Nat.reduceMul, Nat.reduceSub, Nat.reduceLT, Int.reduceEq, Int.reduceLT, Int.reduceLE, Int.reduceNeg, Nat.reduceLeDiff, if_true, if_false, ↓reduceIte, forall_const, implies_true, reduceCtorEq, forall_eq_or_imp, forall_eq, ne_eq]) trivial ?_
    simp (maxSteps := 2000000) only [↓ctl, evl, val, valP, own, app, wrt, tys, Try.ntmps21, Try.results21, ↓V_convert, ↓V_bytes, stdl, cond_true, cond_false, Nat.reduceEqDiff, Nat.reduceAdd, Nat.reduceMul, Nat.reduceSub, Nat.reduceLT, Int.reduceEq, Int.reduceLT, Int.reduceLE, Int.reduceNeg, Nat.reduceLeDiff, if_true, if_false, ↓reduceIte, forall_const, implies_true, reduceCtorEq, forall_eq_or_imp, forall_eq, ne_eq]
    refine V_callF mixed (cap := []) (fun _ => d_l01In (f.quotas.getD i default).blocks 0 14) (by simp (maxSteps := 2000000) (contextual := true) only [↓ctl, evl, val, valP, own, app, wrt, tys, Try.ntmps21, Try.results21, ↓V_convert, ↓V_bytes, stdl, cond_true, cond_false, Nat.reduceEqDiff, Nat.reduceAdd, Nat.reduceMul, Nat.reduceSub, Nat.reduceLT, Int.reduceEq, Int.reduceLT, Int.reduceLE, Int.reduceNeg, Nat.reduceLeDiff, if_true, if_false, ↓reduceIte, forall_const, implies_true, reduceCtorEq, forall_eq_or_imp, forall_eq, ne_eq]) (by simp (maxSteps := 2000000) (contextual := true) only [↓ctl, evl, val, valP, own, app, wrt, tys, Try.ntmps21, Try.results21, ↓V_convert, ↓V_bytes, stdl, cond_true, cond_false, Nat.reduceEqDiff, Nat.reduceAdd, Nat.reduceMul, Nat.reduceSub, Nat.reduceLT, Int.reduceEq, Int.reduceLT, Int.reduceLE, Int.reduceNeg, Nat.reduceLeDiff, if_true, if_false, ↓reduceIte, forall_const, implies_true, reduceCtorEq, forall_eq_or_imp, forall_eq, ne_eq]) (by simp (maxSteps := 2000000) (contextual := true) only [↓ctl, evl, val, valP, own, app, wrt, tys, Try.ntmps21, Try.results21, ↓V_convert, ↓V_bytes, stdl, cond_true, cond_false, Nat.reduceEqDiff, Nat.reduceAdd, Nat.reduceMul, Nat.reduceSub, Nat.reduceLT, Int.reduceEq, Int.reduceLT, Int.reduceLE, Int.reduceNeg, Nat.reduceLeDiff, if_true, if_false, ↓reduceIte, forall_const, implies_true, reduceCtorEq, forall_eq_or_imp, forall_eq, ne_eq]) trivial ?_
    simp (maxSteps := 2000000) only [↓ctl, evl, val, valP, own, app, wrt, tys, Try.ntmps21, Try.results21, ↓V_convert, ↓V_bytes, stdl, cond_true, cond_false, Nat.reduceEqDiff, Nat.reduceAdd, Nat.reduceMul, Nat.reduceSub, Nat.reduceLT, Int.reduceEq, Int.reduceLT, Int.reduceLE, Int.reduceNeg, Nat.reduceLeDiff, if_true, if_false, ↓reduceIte, forall_const, implies_true, reduceCtorEq, forall_eq_or_imp, forall_eq, ne_eq]
    refine ⟨fun h => ?_, fun h => V_backI ⟨i + 1, by omega, ?_⟩ (by show _ - (i + 1) < _; omega) (weakI ?_)⟩
    · have : f.quotas.all qOk = false := by rw [hx, hst]; unfold qOk; grind
      simp only [isFS, this, Bool.and_false, Bool.false_and]
    · rw [hx, hst]; unfold qOk; grind
    · simp (maxSteps := 2000000) only [↓ctl, evl, val, valP, own, app, wrt, tys, Try.ntmps21, Try.results21, ↓V_convert, ↓V_bytes, stdl, cond_true, cond_false, Nat.reduceEqDiff, Nat.reduceAdd, Nat.reduceMul, Nat.reduceSub, Nat.reduceLT, Int.reduceEq, Int.reduceLT, Int.reduceLE, Int.reduceNeg, Nat.reduceLeDiff, if_true, if_false, ↓reduceIte, forall_const, implies_true, reduceCtorEq, forall_eq_or_imp, forall_eq, ne_eq]
      rw [wrap_id (by omega) (by omega)]
      rfl
  have hQ : f.quotas.all qOk = true := by rw [hx, drop_end _ _ hlt]; rfl
  simp (maxSteps := 2000000) only [↓ctl, evl, val, valP, own, app, wrt, tys, Try.ntmps21, Try.results21, ↓V_convert, ↓V_bytes, stdl, cond_true, cond_false, Nat.reduceEqDiff, Nat.reduceAdd, Nat.reduceMul, Nat.reduceSub, Nat.reduceLT, Int.reduceEq, Int.reduceLT, Int.reduceLE, Int.reduceNeg, Nat.reduceLeDiff, if_true, if_false, ↓reduceIte, forall_const, implies_true, reduceCtorEq, forall_eq_or_imp, forall_eq, ne_eq, hlt]
  clear hx hlt hi
  refine V_loopI mixed (ι := {i : Nat // i ≤ f.inodes.length ∧ f.inodes.all isInode = (f.inodes.drop i).all isInode}) (fun i => ⟨[(1, true, .ptr 0 0 0 0), (55, true, .rd 10 (f.inodes.map inodeRow)), (56, true, I f.inodes.length), (57, true, I i.1)], [(0, .box 32 [I f.tick, .rd 2 (f.quotas.map quotaRow), .rd 10 (f.inodes.map inodeRow), .rd 1 (f.data.map strRow)])], 1, 143⟩) (fun i => f.inodes.length - i.1)  ⟨0, by simp⟩ ?_ ?_ ?_
  · refine weakI ?_
    simp (maxSteps := 2000000) only [↓ctl, evl, val, valP, own, app, wrt, tys, Try.ntmps21, Try.results21, ↓V_convert, ↓V_bytes, stdl, cond_true, cond_false, Nat.reduceEqDiff, Nat.reduceAdd, Nat.reduceMul, Nat.reduceSub, Nat.reduceLT, Int.reduceEq, Int.reduceLT, Int.reduceLE, Int.reduceNeg, Nat.reduceLeDiff, if_true, if_false, ↓reduceIte, forall_const, implies_true, reduceCtorEq, forall_eq_or_imp, forall_eq, ne_eq]
    try rfl
  · trivial
  rintro ⟨i, hi, hx⟩
  by_cases hlt : i < f.inodes.length
  · have hst := all_drop (p := isInode) default hlt
    obtain ⟨m1, m2⟩ := hk.nodes _ (show f.inodes.getD i default ∈ f.inodes by rw [getD_get _ i _ hlt]; exact List.getElem_mem hlt)
    simp (maxSteps := 2000000) only [↓ctl, evl, val, valP, own, app, wrt, tys, Try.ntmps21, Try.results21, ↓V_convert, ↓V_bytes, stdl, cond_true, cond_false, Nat.reduceEqDiff, Nat.reduceAdd, Nat.reduceMul, Nat.reduceSub, Nat.reduceLT, Int.reduceEq, Int.reduceLT, Int.reduceLE, Int.reduceNeg, Nat.reduceLeDiff, if_true, if_false, ↓reduceIte, forall_const, implies_true, reduceCtorEq, forall_eq_or_imp, forall_eq, ne_eq, hlt, inodeRow_e, ints_map, acls_map]
    refine V_callF mixed (cap := []) (fun _ => d_IsInode (f.inodes.getD i default) m1.fits m2) (by simp (maxSteps := 2000000) only [↓ctl, evl, val, valP, own, app, wrt, tys, Try.ntmps21, Try.results21, ↓V_convert, ↓V_bytes, stdl, cond_true, cond_false, Nat.reduceEqDiff, Nat.reduceAdd, Nat.reduceMul, Nat.reduceSub, Nat.reduceLT, Int.reduceEq, Int.reduceLT, Int.reduceLE, Int.reduceNeg, Nat.reduceLeDiff, if_true, if_false, ↓reduceIte, forall_const, implies_true, reduceCtorEq, forall_eq_or_imp, forall_eq, ne_eq, inodeAV, ints_map, acls_map]) (by simp (maxSteps := 2000000) only [↓ctl, evl, val, valP, own, app, wrt, tys, Try.ntmps21, Try.results21, ↓V_convert, ↓V_bytes, stdl, cond_true, cond_false, Nat.reduceEqDiff, Nat.reduceAdd, Nat.reduceMul, Nat.reduceSub, Nat.reduceLT, Int.reduceEq, Int.reduceLT, Int.reduceLE, Int.reduceNeg, Nat.reduceLeDiff, if_true, if_false, ↓reduceIte, forall_const, implies_true, reduceCtorEq, forall_eq_or_imp, forall_eq, ne_eq]) (by simp (maxSteps := 2000000) only [↓ctl, evl, val, valP, own, app, wrt, tys, Try.ntmps21, Try.results21, ↓V_convert, ↓V_bytes, stdl, cond_true, cond_false, Nat.reduceEqDiff, Nat.reduceAdd, Nat.reduceMul, Nat.reduceSub, Nat.reduceLT, Int.reduceEq, Int.reduceLT, Int.reduceLE, Int.reduceNeg, Nat.reduceLeDiff, if_true, if_false, ↓reduceIte, forall_const, implies_true, reduceCtorEq, forall_eq_or_imp, forall_eq, ne_eq]) trivial ?_
    simp (maxSteps := 2000000) only [↓ctl, evl, val, valP, own, app, wrt, tys, Try.ntmps21, Try.results21, ↓V_convert, ↓V_bytes, stdl, cond_true, cond_false, Nat.reduceEqDiff, Nat.reduceAdd, Nat.reduceMul, Nat.reduceSub, Nat.reduceLT, Int.reduceEq, Int.reduceLT, Int.reduceLE, Int.reduceNeg, Nat.reduceLeDiff, if_true, if_false, ↓reduceIte, forall_const, implies_true, reduceCtorEq, forall_eq_or_imp, forall_eq, ne_eq]
    refine ⟨fun h => ?_, fun h => V_backI ⟨i + 1, by omega, ?_⟩ (by show _ - (i + 1) < _; omega) (weakI ?_)⟩
    · have : f.inodes.all isInode = false := by rw [hx, hst, h]; rfl
      simp only [isFS, this, Bool.and_false, Bool.false_and]
    · rw [hx, hst, h]; rfl
    · simp (maxSteps := 2000000) only [↓ctl, evl, val, valP, own, app, wrt, tys, Try.ntmps21, Try.results21, ↓V_convert, ↓V_bytes, stdl, cond_true, cond_false, Nat.reduceEqDiff, Nat.reduceAdd, Nat.reduceMul, Nat.reduceSub, Nat.reduceLT, Int.reduceEq, Int.reduceLT, Int.reduceLE, Int.reduceNeg, Nat.reduceLeDiff, if_true, if_false, ↓reduceIte, forall_const, implies_true, reduceCtorEq, forall_eq_or_imp, forall_eq, ne_eq]
      rw [wrap_id (by omega) (by omega)]
      rfl
  have hN : f.inodes.all isInode = true := by rw [hx, drop_end _ _ hlt]; rfl
  have hall : ∀ n ∈ f.inodes, isInode n = true := List.all_eq_true.1 hN
  have z0 : (0 : Nat) < f.inodes.length := by omega
  simp (maxSteps := 2000000) only [↓ctl, evl, val, valP, own, app, wrt, tys, Try.ntmps21, Try.results21, ↓V_convert, ↓V_bytes, stdl, cond_true, cond_false, Nat.reduceEqDiff, Nat.reduceAdd, Nat.reduceMul, Nat.reduceSub, Nat.reduceLT, Int.reduceEq, Int.reduceLT, Int.reduceLE, Int.reduceNeg, Nat.reduceLeDiff, if_true, if_false, ↓reduceIte, forall_const, implies_true, reduceCtorEq, forall_eq_or_imp, forall_eq, ne_eq, hlt, z0, inodeRow_e]
  clear hx hlt hi
  refine ⟨by omega, fun h2 => ?_, fun h2 => ?_⟩
  · have : ((f.inodes.getD 0 default).kind == 2) = false := beq_eq_false_iff_ne.2 h2
    simp only [isFS, this, Bool.and_false, Bool.false_and]
  have h2' : ((f.inodes.getD 0 default).kind == 2) = true := beq_iff_eq.2 h2
  have hIs : isFS f = (match useNs none0 f.inodes with | none => false | some u => f.data.all (fun s => decide ((s.length : Int) = 32)) && freeOk u f.data && f.inodes.all (tailOk f.data)) := by
    unfold isFS; rw [hH, hQ, hN, h2']; rfl
  have hc := d_l08Used f hall (by omega) (fun n hn => (hk.nodes n hn).1.fits.1)
  cases hU : useNs none0 f.inodes with
  | none =>
    rw [hU] at hc hIs
    rw [resU_none, heapU_none] at hc
    refine V_callR mixed (cap := []) (hc) (by simp (maxSteps := 2000000) only [↓ctl, evl, val, valP, own, app, wrt, tys, Try.ntmps21, Try.results21, ↓V_convert, ↓V_bytes, stdl, cond_true, cond_false, Nat.reduceEqDiff, Nat.reduceAdd, Nat.reduceMul, Nat.reduceSub, Nat.reduceLT, Int.reduceEq, Int.reduceLT, Int.reduceLE, Int.reduceNeg, Nat.reduceLeDiff, if_true, if_false, ↓reduceIte, forall_const, implies_true, reduceCtorEq, forall_eq_or_imp, forall_eq, ne_eq, fsAV]) (by simp (maxSteps := 2000000) only [↓ctl, evl, val, valP, own, app, wrt, tys, Try.ntmps21, Try.results21, ↓V_convert, ↓V_bytes, stdl, cond_true, cond_false, Nat.reduceEqDiff, Nat.reduceAdd, Nat.reduceMul, Nat.reduceSub, Nat.reduceLT, Int.reduceEq, Int.reduceLT, Int.reduceLE, Int.reduceNeg, Nat.reduceLeDiff, if_true, if_false, ↓reduceIte, forall_const, implies_true, reduceCtorEq, forall_eq_or_imp, forall_eq, ne_eq]) (by simp (maxSteps := 2000000) only [↓ctl, evl, val, valP, own, app, wrt, tys, Try.ntmps21, Try.results21, ↓V_convert, ↓V_bytes, stdl, cond_true, cond_false, Nat.reduceEqDiff, Nat.reduceAdd, Nat.reduceMul, Nat.reduceSub, Nat.reduceLT, Int.reduceEq, Int.reduceLT, Int.reduceLE, Int.reduceNeg, Nat.reduceLeDiff, if_true, if_false, ↓reduceIte, forall_const, implies_true, reduceCtorEq, forall_eq_or_imp, forall_eq, ne_eq]) trivial ?_
    simp (maxSteps := 2000000) only [↓ctl, evl, val, valP, own, app, wrt, tys, Try.ntmps21, Try.results21, ↓V_convert, ↓V_bytes, stdl, cond_true, cond_false, Nat.reduceEqDiff, Nat.reduceAdd, Nat.reduceMul, Nat.reduceSub, Nat.reduceLT, Int.reduceEq, Int.reduceLT, Int.reduceLE, Int.reduceNeg, Nat.reduceLeDiff, if_true, if_false, ↓reduceIte, forall_const, implies_true, reduceCtorEq, forall_eq_or_imp, forall_eq, ne_eq]
    exact hIs.symm
  | some u =>
  rw [hU] at hc hIs
  rw [resU_some, heapU_some] at hc
  have hIs : isFS f = (f.data.all (fun s => decide ((s.length : Int) = 32)) && freeOk u f.data && f.inodes.all (tailOk f.data)) := hIs
  have ul : u.length = 56 := by rw [useNs_len hU]; simp [none0]
  refine V_callR mixed (cap := []) (hc) (by simp (maxSteps := 2000000) only [↓ctl, evl, val, valP, own, app, wrt, tys, Try.ntmps21, Try.results21, ↓V_convert, ↓V_bytes, stdl, cond_true, cond_false, Nat.reduceEqDiff, Nat.reduceAdd, Nat.reduceMul, Nat.reduceSub, Nat.reduceLT, Int.reduceEq, Int.reduceLT, Int.reduceLE, Int.reduceNeg, Nat.reduceLeDiff, if_true, if_false, ↓reduceIte, forall_const, implies_true, reduceCtorEq, forall_eq_or_imp, forall_eq, ne_eq, fsAV]) (by simp (maxSteps := 2000000) only [↓ctl, evl, val, valP, own, app, wrt, tys, Try.ntmps21, Try.results21, ↓V_convert, ↓V_bytes, stdl, cond_true, cond_false, Nat.reduceEqDiff, Nat.reduceAdd, Nat.reduceMul, Nat.reduceSub, Nat.reduceLT, Int.reduceEq, Int.reduceLT, Int.reduceLE, Int.reduceNeg, Nat.reduceLeDiff, if_true, if_false, ↓reduceIte, forall_const, implies_true, reduceCtorEq, forall_eq_or_imp, forall_eq, ne_eq]) (by simp (maxSteps := 2000000) only [↓ctl, evl, val, valP, own, app, wrt, tys, Try.ntmps21, Try.results21, ↓V_convert, ↓V_bytes, stdl, cond_true, cond_false, Nat.reduceEqDiff, Nat.reduceAdd, Nat.reduceMul, Nat.reduceSub, Nat.reduceLT, Int.reduceEq, Int.reduceLT, Int.reduceLE, Int.reduceNeg, Nat.reduceLeDiff, if_true, if_false, ↓reduceIte, forall_const, implies_true, reduceCtorEq, forall_eq_or_imp, forall_eq, ne_eq]) trivial ?_
  simp (maxSteps := 2000000) only [↓ctl, evl, val, valP, own, app, wrt, tys, Try.ntmps21, Try.results21, ↓V_convert, ↓V_bytes, stdl, cond_true, cond_false, Nat.reduceEqDiff, Nat.reduceAdd, Nat.reduceMul, Nat.reduceSub, Nat.reduceLT, Int.reduceEq, Int.reduceLT, Int.reduceLE, Int.reduceNeg, Nat.reduceLeDiff, if_true, if_false, ↓reduceIte, forall_const, implies_true, reduceCtorEq, forall_eq_or_imp, forall_eq, ne_eq]
  refine V_loopI mixed (ι := {i : Nat // i ≤ f.data.length ∧ f.data.all (fun s => decide ((s.length : Int) = 32)) = (f.data.drop i).all (fun s => decide ((s.length : Int) = 32)) ∧ freeOk u f.data = freeOk (u.drop i) (f.data.drop i)}) (fun i => ⟨[(1, true, .ptr 0 0 0 0), (7, true, .sl 2 1 0 56), (79, true, .rd 1 (f.data.map strRow)), (80, true, I f.data.length), (81, true, I i.1)], [(2, .row 4 1 (u.map boolRow)), (0, .box 32 [I f.tick, .rd 2 (f.quotas.map quotaRow), .rd 10 (f.inodes.map inodeRow), .rd 1 (f.data.map strRow)])], 3, 143⟩) (fun i => f.data.length - i.1)  ⟨0, by simp⟩ ?_ ?_ ?_
  · refine weakI ?_
    simp (maxSteps := 2000000) only [↓ctl, evl, val, valP, own, app, wrt, tys, Try.ntmps21, Try.results21, ↓V_convert, ↓V_bytes, stdl, cond_true, cond_false, Nat.reduceEqDiff, Nat.reduceAdd, Nat.reduceMul, Nat.reduceSub, Nat.reduceLT, Int.reduceEq, Int.reduceLT, Int.reduceLE, Int.reduceNeg, Nat.reduceLeDiff, if_true, if_false, ↓reduceIte, forall_const, implies_true, reduceCtorEq, forall_eq_or_imp, forall_eq, ne_eq]
    try rfl
  · trivial
  rintro ⟨i, hi, hx, hy⟩
  by_cases hlt : i < f.data.length
  · have hst := all_drop (p := fun s : List UInt8 => decide ((s.length : Int) = 32)) default hlt
    have hst2 := freeOk_step (us := u) hlt (by omega)
    have e3 : i < u.length := by omega
    have e4 : i < 56 := by omega
    have ht := hk.texts _ (show f.data.getD i default ∈ f.data by rw [getD_get _ i _ hlt]; exact List.getElem_mem hlt)
    simp (maxSteps := 2000000) only [↓ctl, evl, val, valP, own, app, wrt, tys, Try.ntmps21, Try.results21, ↓V_convert, ↓V_bytes, stdl, cond_true, cond_false, Nat.reduceEqDiff, Nat.reduceAdd, Nat.reduceMul, Nat.reduceSub, Nat.reduceLT, Int.reduceEq, Int.reduceLT, Int.reduceLE, Int.reduceNeg, Nat.reduceLeDiff, if_true, if_false, ↓reduceIte, forall_const, implies_true, reduceCtorEq, forall_eq_or_imp, forall_eq, ne_eq, hlt, e3, e4]
    refine V_callF mixed (cap := []) (fun _ => d_IsZeroes (f.data.getD i default) (by omega)) (by simp (maxSteps := 2000000) (contextual := true) only [↓ctl, evl, val, valP, own, app, wrt, tys, Try.ntmps21, Try.results21, ↓V_convert, ↓V_bytes, stdl, cond_true, cond_false, Nat.reduceEqDiff, Nat.reduceAdd, Nat.reduceMul, Nat.reduceSub, Nat.reduceLT, Int.reduceEq, Int.reduceLT, Int.reduceLE, Int.reduceNeg, Nat.reduceLeDiff, if_true, if_false, ↓reduceIte, forall_const, implies_true, reduceCtorEq, forall_eq_or_imp, forall_eq, ne_eq]) (by simp (maxSteps := 2000000) (contextual := true) only [↓ctl, evl, val, valP, own, app, wrt, tys, Try.ntmps21, Try.results21, ↓V_convert, ↓V_bytes, stdl, cond_true, cond_false, Nat.reduceEqDiff, Nat.reduceAdd, Nat.reduceMul, Nat.reduceSub, Nat.reduceLT, Int.reduceEq, Int.reduceLT, Int.reduceLE, Int.reduceNeg, Nat.reduceLeDiff, if_true, if_false, ↓reduceIte, forall_const, implies_true, reduceCtorEq, forall_eq_or_imp, forall_eq, ne_eq]) (by simp (maxSteps := 2000000) (contextual := true) only [↓ctl, evl, val, valP, own, app, wrt, tys, Try.ntmps21, Try.results21, ↓V_convert, ↓V_bytes, stdl, cond_true, cond_false, Nat.reduceEqDiff, Nat.reduceAdd, Nat.reduceMul, Nat.reduceSub, Nat.reduceLT, Int.reduceEq, Int.reduceLT, Int.reduceLE, Int.reduceNeg, Nat.reduceLeDiff, if_true, if_false, ↓reduceIte, forall_const, implies_true, reduceCtorEq, forall_eq_or_imp, forall_eq, ne_eq]) trivial ?_
    simp (maxSteps := 2000000) only [↓ctl, evl, val, valP, own, app, wrt, tys, Try.ntmps21, Try.results21, ↓V_convert, ↓V_bytes, stdl, cond_true, cond_false, Nat.reduceEqDiff, Nat.reduceAdd, Nat.reduceMul, Nat.reduceSub, Nat.reduceLT, Int.reduceEq, Int.reduceLT, Int.reduceLE, Int.reduceNeg, Nat.reduceLeDiff, if_true, if_false, ↓reduceIte, forall_const, implies_true, reduceCtorEq, forall_eq_or_imp, forall_eq, ne_eq]
    refine ⟨by grind, fun h => ?_, fun h => V_backI ⟨i + 1, by omega, ?_, ?_⟩ (by show _ - (i + 1) < _; omega) (weakI ?_)⟩
    · rw [hIs, hx, hst, hy, hst2]; grind
    · rw [hx, hst]; grind
    · rw [hy, hst2]; grind
    · simp (maxSteps := 2000000) only [↓ctl, evl, val, valP, own, app, wrt, tys, Try.ntmps21, Try.results21, ↓V_convert, ↓V_bytes, stdl, cond_true, cond_false, Nat.reduceEqDiff, Nat.reduceAdd, Nat.reduceMul, Nat.reduceSub, Nat.reduceLT, Int.reduceEq, Int.reduceLT, Int.reduceLE, Int.reduceNeg, Nat.reduceLeDiff, if_true, if_false, ↓reduceIte, forall_const, implies_true, reduceCtorEq, forall_eq_or_imp, forall_eq, ne_eq]
      rw [wrap_id (by omega) (by omega)]
      rfl
  have hD : f.data.all (fun s => decide ((s.length : Int) = 32)) = true := by rw [hx, drop_end _ _ hlt]; rfl
  have hF : freeOk u f.data = true := by rw [hy, freeOk_end hlt]
  have hlen : ∀ s ∈ f.data, s.length = 32 := fun s hs => by
    have := List.all_eq_true.1 hD s hs
    simp only [decide_eq_true_eq] at this; omega
  rw [hD, hF] at hIs
  have hIs : isFS f = f.inodes.all (tailOk f.data) := hIs
  simp (maxSteps := 2000000) only [↓ctl, evl, val, valP, own, app, wrt, tys, Try.ntmps21, Try.results21, ↓V_convert, ↓V_bytes, stdl, cond_true, cond_false, Nat.reduceEqDiff, Nat.reduceAdd, Nat.reduceMul, Nat.reduceSub, Nat.reduceLT, Int.reduceEq, Int.reduceLT, Int.reduceLE, Int.reduceNeg, Nat.reduceLeDiff, if_true, if_false, ↓reduceIte, forall_const, implies_true, reduceCtorEq, forall_eq_or_imp, forall_eq, ne_eq, hlt]
  clear hx hlt hi hy
  refine V_loopI mixed (ι := {i : Nat // i ≤ f.inodes.length ∧ f.inodes.all (tailOk f.data) = (f.inodes.drop i).all (tailOk f.data)}) (fun i => ⟨[(1, true, .ptr 0 0 0 0), (103, true, .rd 10 (f.inodes.map inodeRow)), (104, true, I f.inodes.length), (105, true, I i.1)], [(0, .box 32 [I f.tick, .rd 2 (f.quotas.map quotaRow), .rd 10 (f.inodes.map inodeRow), .rd 1 (f.data.map strRow)])], 1, 143⟩) (fun i => f.inodes.length - i.1)  ⟨0, by simp⟩ ?_ ?_ ?_
  · refine weakI ?_
    simp (maxSteps := 2000000) only [↓ctl, evl, val, valP, own, app, wrt, tys, Try.ntmps21, Try.results21, ↓V_convert, ↓V_bytes, stdl, cond_true, cond_false, Nat.reduceEqDiff, Nat.reduceAdd, Nat.reduceMul, Nat.reduceSub, Nat.reduceLT, Int.reduceEq, Int.reduceLT, Int.reduceLE, Int.reduceNeg, Nat.reduceLeDiff, if_true, if_false, ↓reduceIte, forall_const, implies_true, reduceCtorEq, forall_eq_or_imp, forall_eq, ne_eq]
    try rfl
  · trivial
  rintro ⟨i, hi, hx⟩
  by_cases hlt : i < f.inodes.length
  · have hst := all_drop (p := tailOk f.data) default hlt
    have hm : f.inodes.getD i default ∈ f.inodes := by rw [getD_get _ i _ hlt]; exact List.getElem_mem hlt
    have hv := hall _ hm
    obtain ⟨s1, s2, s3⟩ := isInode_size hv
    have hin := isInode_in hv
    -- the block numbers are those of blocks in use
    have hown : ∀ b ∈ (f.inodes.getD i default).blocks, b ≠ -1 → 0 ≤ b ∧ b < 56 := useNs_in hU hall _ hm
    generalize hn : f.inodes.getD i default = n at *
    by_cases hb0 : n.blocks.length = 0
    · have e1 : ¬ IntKind.i64.wrap ((n.blocks.length : Int) - 1) ≥ 0 := by rw [hb0]; decide
      simp (maxSteps := 2000000) only [↓ctl, evl, val, valP, own, app, wrt, tys, Try.ntmps21, Try.results21, ↓V_convert, ↓V_bytes, stdl, cond_true, cond_false, Nat.reduceEqDiff, Nat.reduceAdd, Nat.reduceMul, Nat.reduceSub, Nat.reduceLT, Int.reduceEq, Int.reduceLT, Int.reduceLE, Int.reduceNeg, Nat.reduceLeDiff, if_true, if_false, ↓reduceIte, forall_const, implies_true, reduceCtorEq, forall_eq_or_imp, forall_eq, ne_eq, hlt, hn, inodeRow_e, ints_map, acls_map, e1]
      refine ⟨by kernel_rfl, ?_⟩
      refine V_callF mixed (cap := []) (fun _ => d_IsZeroes [] (by simp)) (by simp (maxSteps := 2000000) (contextual := true) only [↓ctl, evl, val, valP, own, app, wrt, tys, Try.ntmps21, Try.results21, ↓V_convert, ↓V_bytes, stdl, cond_true, cond_false, Nat.reduceEqDiff, Nat.reduceAdd, Nat.reduceMul, Nat.reduceSub, Nat.reduceLT, Int.reduceEq, Int.reduceLT, Int.reduceLE, Int.reduceNeg, Nat.reduceLeDiff, if_true, if_false, ↓reduceIte, forall_const, implies_true, reduceCtorEq, forall_eq_or_imp, forall_eq, ne_eq]) (by simp (maxSteps := 2000000) (contextual := true) only [↓ctl, evl, val, valP, own, app, wrt, tys, Try.ntmps21, Try.results21, ↓V_convert, ↓V_bytes, stdl, cond_true, cond_false, Nat.reduceEqDiff, Nat.reduceAdd, Nat.reduceMul, Nat.reduceSub, Nat.reduceLT, Int.reduceEq, Int.reduceLT, Int.reduceLE, Int.reduceNeg, Nat.reduceLeDiff, if_true, if_false, ↓reduceIte, forall_const, implies_true, reduceCtorEq, forall_eq_or_imp, forall_eq, ne_eq]) (by simp (maxSteps := 2000000) (contextual := true) only [↓ctl, evl, val, valP, own, app, wrt, tys, Try.ntmps21, Try.results21, ↓V_convert, ↓V_bytes, stdl, cond_true, cond_false, Nat.reduceEqDiff, Nat.reduceAdd, Nat.reduceMul, Nat.reduceSub, Nat.reduceLT, Int.reduceEq, Int.reduceLT, Int.reduceLE, Int.reduceNeg, Nat.reduceLeDiff, if_true, if_false, ↓reduceIte, forall_const, implies_true, reduceCtorEq, forall_eq_or_imp, forall_eq, ne_eq]) trivial ?_
      simp (maxSteps := 2000000) only [↓ctl, evl, val, valP, own, app, wrt, tys, Try.ntmps21, Try.results21, ↓V_convert, ↓V_bytes, stdl, cond_true, cond_false, Nat.reduceEqDiff, Nat.reduceAdd, Nat.reduceMul, Nat.reduceSub, Nat.reduceLT, Int.reduceEq, Int.reduceLT, Int.reduceLE, Int.reduceNeg, Nat.reduceLeDiff, if_true, if_false, ↓reduceIte, forall_const, implies_true, reduceCtorEq, forall_eq_or_imp, forall_eq, ne_eq, e1]
      refine V_backI ⟨i + 1, by omega, ?_⟩ (by show _ - (i + 1) < _; omega) (weakI ?_)
      · have : tailOk f.data n = true := by unfold tailOk; rw [if_pos hb0]
        rw [hx, hst, this]; rfl
      · simp (maxSteps := 2000000) only [↓ctl, evl, val, valP, own, app, wrt, tys, Try.ntmps21, Try.results21, ↓V_convert, ↓V_bytes, stdl, cond_true, cond_false, Nat.reduceEqDiff, Nat.reduceAdd, Nat.reduceMul, Nat.reduceSub, Nat.reduceLT, Int.reduceEq, Int.reduceLT, Int.reduceLE, Int.reduceNeg, Nat.reduceLeDiff, if_true, if_false, ↓reduceIte, forall_const, implies_true, reduceCtorEq, forall_eq_or_imp, forall_eq, ne_eq]
        rw [wrap_id (by omega) (by omega)]
        rfl
    obtain ⟨L, hL⟩ : ∃ L, n.blocks.length = L + 1 := ⟨n.blocks.length - 1, by omega⟩
    have hLl : L < n.blocks.length := by omega
    have e1 : IntKind.i64.wrap ((n.blocks.length : Int) - 1) = (L : Int) := by have := (hk.nodes n hm).1.1; rw [wrap_id (by omega) (by omega)]; omega
    have e2 : (L : Int) ≥ 0 := by omega
    have hL8 : (L : Int) * 32 < 256 ∧ 0 < n.size - (L : Int) * 32 ∧ n.size - (L : Int) * 32 ≤ 32 := by
      unfold need at s3; split at s3 <;> omega
    have e3 : IntKind.i64.wrap ((L : Int) * 32) = (L : Int) * 32 := wrap_id (by omega) (by omega)
    have e4 : IntKind.i64.wrap (n.size - (L : Int) * 32) = n.size - (L : Int) * 32 := wrap_id (by omega) (by omega)
    have hbm : n.blocks.getD L default ∈ n.blocks := by rw [getD_get _ _ _ hLl]; exact List.getElem_mem hLl
    have hob := hown _ hbm
    have hto : tailOk f.data n = if n.blocks.getD L default = -1 then true else zeroes ((f.data.getD (n.blocks.getD L default).toNat default).drop (n.size - (L : Int) * 32).toNat) := by
      unfold tailOk; rw [if_neg hb0, hL]; simp
    generalize hbb : n.blocks.getD L default = b at *
    by_cases hb1 : b = -1
    · simp (maxSteps := 2000000) only [↓ctl, evl, val, valP, own, app, wrt, tys, Try.ntmps21, Try.results21, ↓V_convert, ↓V_bytes, stdl, cond_true, cond_false, Nat.reduceEqDiff, Nat.reduceAdd, Nat.reduceMul, Nat.reduceSub, Nat.reduceLT, Int.reduceEq, Int.reduceLT, Int.reduceLE, Int.reduceNeg, Nat.reduceLeDiff, if_true, if_false, ↓reduceIte, forall_const, implies_true, reduceCtorEq, forall_eq_or_imp, forall_eq, ne_eq, hlt, hn, inodeRow_e, ints_map, acls_map, e1, e2, e3, e4, hLl, hbb, hb1]
      refine ⟨by kernel_rfl, ?_⟩
      refine V_callF mixed (cap := []) (fun _ => d_IsZeroes [] (by simp)) (by simp (maxSteps := 2000000) (contextual := true) only [↓ctl, evl, val, valP, own, app, wrt, tys, Try.ntmps21, Try.results21, ↓V_convert, ↓V_bytes, stdl, cond_true, cond_false, Nat.reduceEqDiff, Nat.reduceAdd, Nat.reduceMul, Nat.reduceSub, Nat.reduceLT, Int.reduceEq, Int.reduceLT, Int.reduceLE, Int.reduceNeg, Nat.reduceLeDiff, if_true, if_false, ↓reduceIte, forall_const, implies_true, reduceCtorEq, forall_eq_or_imp, forall_eq, ne_eq]) (by simp (maxSteps := 2000000) (contextual := true) only [↓ctl, evl, val, valP, own, app, wrt, tys, Try.ntmps21, Try.results21, ↓V_convert, ↓V_bytes, stdl, cond_true, cond_false, Nat.reduceEqDiff, Nat.reduceAdd, Nat.reduceMul, Nat.reduceSub, Nat.reduceLT, Int.reduceEq, Int.reduceLT, Int.reduceLE, Int.reduceNeg, Nat.reduceLeDiff, if_true, if_false, ↓reduceIte, forall_const, implies_true, reduceCtorEq, forall_eq_or_imp, forall_eq, ne_eq]) (by simp (maxSteps := 2000000) (contextual := true) only [↓ctl, evl, val, valP, own, app, wrt, tys, Try.ntmps21, Try.results21, ↓V_convert, ↓V_bytes, stdl, cond_true, cond_false, Nat.reduceEqDiff, Nat.reduceAdd, Nat.reduceMul, Nat.reduceSub, Nat.reduceLT, Int.reduceEq, Int.reduceLT, Int.reduceLE, Int.reduceNeg, Nat.reduceLeDiff, if_true, if_false, ↓reduceIte, forall_const, implies_true, reduceCtorEq, forall_eq_or_imp, forall_eq, ne_eq]) trivial ?_
      simp (maxSteps := 2000000) only [↓ctl, evl, val, valP, own, app, wrt, tys, Try.ntmps21, Try.results21, ↓V_convert, ↓V_bytes, stdl, cond_true, cond_false, Nat.reduceEqDiff, Nat.reduceAdd, Nat.reduceMul, Nat.reduceSub, Nat.reduceLT, Int.reduceEq, Int.reduceLT, Int.reduceLE, Int.reduceNeg, Nat.reduceLeDiff, if_true, if_false, ↓reduceIte, forall_const, implies_true, reduceCtorEq, forall_eq_or_imp, forall_eq, ne_eq, e1, e2, hb1, hLl, hbb]
      refine V_backI ⟨i + 1, by omega, ?_⟩ (by show _ - (i + 1) < _; omega) (weakI ?_)
      · rw [hx, hst, hto, if_pos hb1]; rfl
      · simp (maxSteps := 2000000) only [↓ctl, evl, val, valP, own, app, wrt, tys, Try.ntmps21, Try.results21, ↓V_convert, ↓V_bytes, stdl, cond_true, cond_false, Nat.reduceEqDiff, Nat.reduceAdd, Nat.reduceMul, Nat.reduceSub, Nat.reduceLT, Int.reduceEq, Int.reduceLT, Int.reduceLE, Int.reduceNeg, Nat.reduceLeDiff, if_true, if_false, ↓reduceIte, forall_const, implies_true, reduceCtorEq, forall_eq_or_imp, forall_eq, ne_eq]
        rw [wrap_id (by omega) (by omega)]
        rfl
    obtain ⟨o1, o2⟩ := hob hb1
    have o3 : b < f.data.length := by omega
    have o4 : b.toNat < f.data.length := by omega
    have hd32 : (f.data.getD b.toNat default).length = 32 := hlen _ (by rw [getD_get _ _ _ o4]; exact List.getElem_mem o4)
    simp (maxSteps := 2000000) only [↓ctl, evl, val, valP, own, app, wrt, tys, Try.ntmps21, Try.results21, ↓V_convert, ↓V_bytes, stdl, cond_true, cond_false, Nat.reduceEqDiff, Nat.reduceAdd, Nat.reduceMul, Nat.reduceSub, Nat.reduceLT, Int.reduceEq, Int.reduceLT, Int.reduceLE, Int.reduceNeg, Nat.reduceLeDiff, if_true, if_false, ↓reduceIte, forall_const, implies_true, reduceCtorEq, forall_eq_or_imp, forall_eq, ne_eq, hlt, hn, inodeRow_e, ints_map, acls_map, e1, e2, e3, e4, hLl, hbb, hb1, o1, o3, o4, hd32]
    have tk : List.take (32 - (n.size - (L : Int) * 32).toNat) (List.drop (n.size - (L : Int) * 32).toNat (f.data.getD b.toNat default)) = List.drop (n.size - (L : Int) * 32).toNat (f.data.getD b.toNat default) := List.take_of_length_le (by rw [List.length_drop, hd32]; omega)
    refine ⟨by kernel_rfl, ⟨by omega, by omega⟩, ?_⟩
    refine V_callF mixed (cap := []) (fun _ => d_IsZeroes (List.drop (n.size - (L : Int) * 32).toNat (f.data.getD b.toNat default)) (by rw [List.length_drop, hd32]; omega)) (by simp (maxSteps := 2000000) (contextual := true) only [↓ctl, evl, val, valP, own, app, wrt, tys, Try.ntmps21, Try.results21, ↓V_convert, ↓V_bytes, stdl, cond_true, cond_false, Nat.reduceEqDiff, Nat.reduceAdd, Nat.reduceMul, Nat.reduceSub, Nat.reduceLT, Int.reduceEq, Int.reduceLT, Int.reduceLE, Int.reduceNeg, Nat.reduceLeDiff, if_true, if_false, ↓reduceIte, forall_const, implies_true, reduceCtorEq, forall_eq_or_imp, forall_eq, ne_eq, tk]) (by simp (maxSteps := 2000000) (contextual := true) only [↓ctl, evl, val, valP, own, app, wrt, tys, Try.ntmps21, Try.results21, ↓V_convert, ↓V_bytes, stdl, cond_true, cond_false, Nat.reduceEqDiff, Nat.reduceAdd, Nat.reduceMul, Nat.reduceSub, Nat.reduceLT, Int.reduceEq, Int.reduceLT, Int.reduceLE, Int.reduceNeg, Nat.reduceLeDiff, if_true, if_false, ↓reduceIte, forall_const, implies_true, reduceCtorEq, forall_eq_or_imp, forall_eq, ne_eq]) (by simp (maxSteps := 2000000) (contextual := true) only [↓ctl, evl, val, valP, own, app, wrt, tys, Try.ntmps21, Try.results21, ↓V_convert, ↓V_bytes, stdl, cond_true, cond_false, Nat.reduceEqDiff, Nat.reduceAdd, Nat.reduceMul, Nat.reduceSub, Nat.reduceLT, Int.reduceEq, Int.reduceLT, Int.reduceLE, Int.reduceNeg, Nat.reduceLeDiff, if_true, if_false, ↓reduceIte, forall_const, implies_true, reduceCtorEq, forall_eq_or_imp, forall_eq, ne_eq]) trivial ?_
    simp (maxSteps := 2000000) only [↓ctl, evl, val, valP, own, app, wrt, tys, Try.ntmps21, Try.results21, ↓V_convert, ↓V_bytes, stdl, cond_true, cond_false, Nat.reduceEqDiff, Nat.reduceAdd, Nat.reduceMul, Nat.reduceSub, Nat.reduceLT, Int.reduceEq, Int.reduceLT, Int.reduceLE, Int.reduceNeg, Nat.reduceLeDiff, if_true, if_false, ↓reduceIte, forall_const, implies_true, reduceCtorEq, forall_eq_or_imp, forall_eq, ne_eq, e1, e2, hb1]
    refine ⟨fun hz => ?_, fun hz => V_backI ⟨i + 1, by omega, ?_⟩ (by show _ - (i + 1) < _; omega) (weakI ?_)⟩
    · rw [hIs, hx, hst, hto, if_neg hb1, hz]; rfl
    · rw [hx, hst, hto, if_neg hb1, hz]; rfl
    · simp (maxSteps := 2000000) only [↓ctl, evl, val, valP, own, app, wrt, tys, Try.ntmps21, Try.results21, ↓V_convert, ↓V_bytes, stdl, cond_true, cond_false, Nat.reduceEqDiff, Nat.reduceAdd, Nat.reduceMul, Nat.reduceSub, Nat.reduceLT, Int.reduceEq, Int.reduceLT, Int.reduceLE, Int.reduceNeg, Nat.reduceLeDiff, if_true, if_false, ↓reduceIte, forall_const, implies_true, reduceCtorEq, forall_eq_or_imp, forall_eq, ne_eq]
      rw [wrap_id (by omega) (by omega)]
      rfl
  simp (maxSteps := 2000000) only [↓ctl, evl, val, valP, own, app, wrt, tys, Try.ntmps21, Try.results21, ↓V_convert, ↓V_bytes, stdl, cond_true, cond_false, Nat.reduceEqDiff, Nat.reduceAdd, Nat.reduceMul, Nat.reduceSub, Nat.reduceLT, Int.reduceEq, Int.reduceLT, Int.reduceLE, Int.reduceNeg, Nat.reduceLeDiff, if_true, if_false, ↓reduceIte, forall_const, implies_true, reduceCtorEq, forall_eq_or_imp, forall_eq, ne_eq, hlt]
  rw [hIs, hx, drop_end _ _ hlt]; rfl
end Go.Proofs.Ytobnbajakenbeaa


/- Contracts: valid file systems: the program's test.  -/
set_option linter.all false
set_option maxRecDepth 10000
set_option maxHeartbeats 4000000
namespace Go.Proofs.Ytobnbajakenbeaa
open Go Go.Eng

def finI (f : FS) (u : List Bool) : Bool := freeOk u f.data && (f.inodes.getD 0 default).kind == 2
def restI (f : FS) : List Bool → List Inode → Bool
  | u, [] => finI f u
  | u, n :: r => isInode n && (match useBs n.uid u n.blocks with | none => false | some v => tailOk f.data n && restI f v r)
theorem restI_eq (f : FS) : ∀ (l : List Inode) (u : List Bool), restI f u l = (l.all isInode && (match useNs u l with | none => false | some v => l.all (tailOk f.data) && finI f v))
  | [], u => by simp [restI, useNs]
  | n :: l, u => by
    simp only [restI, useNs, List.all_cons]
    cases useBs n.uid u n.blocks with
    | none => simp
    | some v =>
      simp only [Option.bind_some]
      rw [restI_eq f l v]
      cases useNs v l with
      | none => simp
      | some x =>
        cases isInode n <;> cases tailOk f.data n <;> cases l.all isInode <;> simp
theorem restI_step {f : FS} {u : List Bool} {i : Nat} (h : i < f.inodes.length) : restI f u (f.inodes.drop i) = (isInode (f.inodes.getD i default) && (match useBs (f.inodes.getD i default).uid u (f.inodes.getD i default).blocks with | none => false | some v => tailOk f.data (f.inodes.getD i default) && restI f v (f.inodes.drop (i + 1)))) := by
  rw [drop_getD default h]; rfl
theorem isFS_restI {f : FS} (h1 : headFS f = true) (h2 : f.quotas.all qOk = true) (h3 : f.data.all (fun s => decide ((s.length : Int) = 32)) = true) : isFS f = restI f none0 f.inodes := by
  rw [restI_eq]
  unfold isFS finI
  rw [h1, h2]
  cases useNs none0 f.inodes with
  | none => simp
  | some u =>
    simp only [h3, Bool.true_and]
    cases f.inodes.all isInode <;> cases freeOk u f.data <;> cases f.inodes.all (tailOk f.data) <;> simp
theorem c_IsFS (f : FS) (hk : f.ok) : Gives Go.Proofs.Try.prog 25 [fsAV f] (.bool (isFS f)) := by
  refine gives_of_V mixed Go.Proofs.Try.call25 Go.Proofs.Try.func25 rfl (by rw [Go.Proofs.Try.ntmps25]; simp) ?_
  simp (maxSteps := 2000000) only [↓ctl, evl, val, valP, own, app, wrt, tys, Try.ntmps25, Try.results25, ↓V_convert, ↓V_bytes, stdl, cond_true, cond_false, Nat.reduceEqDiff, Nat.reduceAdd, Nat.reduceMul, Nat.reduceSub, Nat.reduceLT, Int.reduceEq, Int.reduceLT, Int.reduceLE, Int.reduceNeg, Nat.reduceLeDiff, if_true, if_false, ↓reduceIte, forall_const, implies_true, reduceCtorEq, forall_eq_or_imp, forall_eq, ne_eq, fsAV]
  refine ⟨fun h => ?_, fun h => ?_⟩
  · have : headFS f = false := by unfold headFS inR; grind
    simp only [isFS, this, Bool.false_and]
  have hH : headFS f = true := by unfold headFS inR; grind
  obtain ⟨l4, l20, l56⟩ := headFS_len hH
  refine V_loopI mixed (ι := {i : Nat // i ≤ f.quotas.length ∧ f.quotas.all qOk = (f.quotas.drop i).all qOk}) (fun i => ⟨[(1, true, .ptr 0 0 0 0), (42, true, .rd 2 (f.quotas.map quotaRow)), (43, true, I f.quotas.length), (44, true, I i.1)], [(0, .box 32 [I f.tick, .rd 2 (f.quotas.map quotaRow), .rd 10 (f.inodes.map inodeRow), .rd 1 (f.data.map strRow)])], 1, 154⟩) (fun i => f.quotas.length - i.1)  ⟨0, by simp⟩ ?_ ?_ ?_
  · refine weakI ?_
    simp (maxSteps := 2000000) only [↓ctl, evl, val, valP, own, app, wrt, tys, Try.ntmps25, Try.results25, ↓V_convert, ↓V_bytes, stdl, cond_true, cond_false, Nat.reduceEqDiff, Nat.reduceAdd, Nat.reduceMul, Nat.reduceSub, Nat.reduceLT, Int.reduceEq, Int.reduceLT, Int.reduceLE, Int.reduceNeg, Nat.reduceLeDiff, if_true, if_false, ↓reduceIte, forall_const, implies_true, reduceCtorEq, forall_eq_or_imp, forall_eq, ne_eq]
    try rfl
  · trivial
  rintro ⟨i, hi, hx⟩
  by_cases hlt : i < f.quotas.length
  · have hst := all_drop (p := qOk) default hlt
    simp (maxSteps := 2000000) only [↓ctl, evl, val, valP, own, app, wrt, tys, Try.ntmps25, Try.results25, ↓V_convert, ↓V_bytes, stdl, cond_true, cond_false, Nat.reduceEqDiff, Nat.reduceAdd, Nat.reduceMul, Nat.reduceSub, Nat.reduceLT, Int.reduceEq, Int.reduceLT, Int.reduceLE, Int.reduceNeg, Nat.reduceLeDiff, if_true, if_false, ↓reduceIte, forall_const, implies_true, reduceCtorEq, forall_eq_or_imp, forall_eq, ne_eq, hlt, quotaRow_e]
    refine ⟨fun h => ?_, fun h => V_backI ⟨i + 1, by omega, ?_⟩ (by show _ - (i + 1) < _; omega) (weakI ?_)⟩
    · have : f.quotas.all qOk = false := by rw [hx, hst]; unfold qOk inR; grind
      simp only [isFS, this, Bool.and_false, Bool.false_and]
    · rw [hx, hst]; unfold qOk inR; grind
    · simp (maxSteps := 2000000) only [↓ctl, evl, val, valP, own, app, wrt, tys, Try.ntmps25, Try.results25, ↓V_convert, ↓V_bytes, stdl, cond_true, cond_false, Nat.reduceEqDiff, Nat.reduceAdd, Nat.reduceMul, Nat.reduceSub, Nat.reduceLT, Int.reduceEq, Int.reduceLT, Int.reduceLE, Int.reduceNeg, Nat.reduceLeDiff, if_true, if_false, ↓reduceIte, forall_const, implies_true, reduceCtorEq, forall_eq_or_imp, forall_eq, ne_eq]
      rw [wrap_id (by omega) (by omega)]
      rfl
  have hQ : f.quotas.all qOk = true := by rw [hx, drop_end _ _ hlt]; rfl
  simp (maxSteps := 2000000) only [↓ctl, evl, val, valP, own, app, wrt, tys, Try.ntmps25, Try.results25, ↓V_convert, ↓V_bytes, stdl, cond_true, cond_false, Nat.reduceEqDiff, Nat.reduceAdd, Nat.reduceMul, Nat.reduceSub, Nat.reduceLT, Int.reduceEq, Int.reduceLT, Int.reduceLE, Int.reduceNeg, Nat.reduceLeDiff, if_true, if_false, ↓reduceIte, forall_const, implies_true, reduceCtorEq, forall_eq_or_imp, forall_eq, ne_eq, hlt]
  clear hx hlt hi
  refine V_loopI mixed (ι := {i : Nat // i ≤ f.data.length ∧ f.data.all (fun s => decide ((s.length : Int) = 32)) = (f.data.drop i).all (fun s => decide ((s.length : Int) = 32))}) (fun i => ⟨[(1, true, .ptr 0 0 0 0), (68, true, .rd 1 (f.data.map strRow)), (69, true, I f.data.length), (70, true, I i.1)], [(0, .box 32 [I f.tick, .rd 2 (f.quotas.map quotaRow), .rd 10 (f.inodes.map inodeRow), .rd 1 (f.data.map strRow)])], 1, 154⟩) (fun i => f.data.length - i.1)  ⟨0, by simp⟩ ?_ ?_ ?_
  · refine weakI ?_
    simp (maxSteps := 2000000) only [↓ctl, evl, val, valP, own, app, wrt, tys, Try.ntmps25, Try.results25, ↓V_convert, ↓V_bytes, stdl, cond_true, cond_false, Nat.reduceEqDiff, Nat.reduceAdd, Nat.reduceMul, Nat.reduceSub, Nat.reduceLT, Int.reduceEq, Int.reduceLT, Int.reduceLE, Int.reduceNeg, Nat.reduceLeDiff, if_true, if_false, ↓reduceIte, forall_const, implies_true, reduceCtorEq, forall_eq_or_imp, forall_eq, ne_eq]
    try rfl
  · trivial
  rintro ⟨i, hi, hx⟩
  by_cases hlt : i < f.data.length
  · have hst := all_drop (p := fun s : List UInt8 => decide ((s.length : Int) = 32)) default hlt
    simp (maxSteps := 2000000) only [↓ctl, evl, val, valP, own, app, wrt, tys, Try.ntmps25, Try.results25, ↓V_convert, ↓V_bytes, stdl, cond_true, cond_false, Nat.reduceEqDiff, Nat.reduceAdd, Nat.reduceMul, Nat.reduceSub, Nat.reduceLT, Int.reduceEq, Int.reduceLT, Int.reduceLE, Int.reduceNeg, Nat.reduceLeDiff, if_true, if_false, ↓reduceIte, forall_const, implies_true, reduceCtorEq, forall_eq_or_imp, forall_eq, ne_eq, hlt]
    refine ⟨fun h => ?_, fun h => V_backI ⟨i + 1, by omega, ?_⟩ (by show _ - (i + 1) < _; omega) (weakI ?_)⟩
    · have : f.data.all (fun s => decide ((s.length : Int) = 32)) = false := by rw [hx, hst, decide_eq_false h]; rfl
      unfold isFS
      cases useNs none0 f.inodes with
      | none => simp
      | some u => simp only [this, Bool.false_and, Bool.and_false]
    · rw [hx, hst, decide_eq_true h]; rfl
    · simp (maxSteps := 2000000) only [↓ctl, evl, val, valP, own, app, wrt, tys, Try.ntmps25, Try.results25, ↓V_convert, ↓V_bytes, stdl, cond_true, cond_false, Nat.reduceEqDiff, Nat.reduceAdd, Nat.reduceMul, Nat.reduceSub, Nat.reduceLT, Int.reduceEq, Int.reduceLT, Int.reduceLE, Int.reduceNeg, Nat.reduceLeDiff, if_true, if_false, ↓reduceIte, forall_const, implies_true, reduceCtorEq, forall_eq_or_imp, forall_eq, ne_eq]
      rw [wrap_id (by omega) (by omega)]
      rfl
  have hD : f.data.all (fun s => decide ((s.length : Int) = 32)) = true := by rw [hx, drop_end _ _ hlt]; rfl
  have hlen : ∀ s ∈ f.data, s.length = 32 := fun s hs => by
    have := List.all_eq_true.1 hD s hs
    simp only [decide_eq_true_eq] at this; omega
  have hIs := isFS_restI hH hQ hD
  simp (maxSteps := 2000000) only [↓ctl, evl, val, valP, own, app, wrt, tys, Try.ntmps25, Try.results25, ↓V_convert, ↓V_bytes, stdl, cond_true, cond_false, Nat.reduceEqDiff, Nat.reduceAdd, Nat.reduceMul, Nat.reduceSub, Nat.reduceLT, Int.reduceEq, Int.reduceLT, Int.reduceLE, Int.reduceNeg, Nat.reduceLeDiff, if_true, if_false, ↓reduceIte, forall_const, implies_true, reduceCtorEq, forall_eq_or_imp, forall_eq, ne_eq, hlt]
  clear hx hlt hi
  have hrow : (List.replicate 56 (Value.bool false)).map (fun v => [Cell.v v]) = none0.map boolRow := by unfold none0; simp [boolRow]
  refine V_loopI mixed (ι := {p : Nat × List Bool // p.1 ≤ f.inodes.length ∧ p.2.length = 56 ∧ isFS f = restI f p.2 (f.inodes.drop p.1)}) (fun p => ⟨[(1, true, .ptr 0 0 0 0), (7, true, .ptr 1 1 0 0), (79, true, .rd 10 (f.inodes.map inodeRow)), (80, true, I f.inodes.length), (81, true, I p.1.1)], [(1, .row 83 1 (p.1.2.map boolRow)), (0, .box 32 [I f.tick, .rd 2 (f.quotas.map quotaRow), .rd 10 (f.inodes.map inodeRow), .rd 1 (f.data.map strRow)])], 2, 154⟩) (fun p => f.inodes.length - p.1.1) ⟨(0, none0), by simp only [List.drop_zero]; exact ⟨by omega, by simp [none0], hIs⟩⟩ ?_ ?_ ?_
  · refine Weak.trans (weak_arr (d := 7) (k := 1) (e := 83) (vals := List.replicate 56 (.bool false)) ?_ ?_) ?_
    · simp (maxSteps := 2000000) only [↓ctl, evl, val, valP, own, app, wrt, tys, Try.ntmps25, Try.results25, ↓V_convert, ↓V_bytes, stdl, cond_true, cond_false, Nat.reduceEqDiff, Nat.reduceAdd, Nat.reduceMul, Nat.reduceSub, Nat.reduceLT, Int.reduceEq, Int.reduceLT, Int.reduceLE, Int.reduceNeg, Nat.reduceLeDiff, if_true, if_false, ↓reduceIte, forall_const, implies_true, reduceCtorEq, forall_eq_or_imp, forall_eq, ne_eq]
    · simp (maxSteps := 2000000) only [↓ctl, evl, val, valP, own, app, wrt, tys, Try.ntmps25, Try.results25, ↓V_convert, ↓V_bytes, stdl, cond_true, cond_false, Nat.reduceEqDiff, Nat.reduceAdd, Nat.reduceMul, Nat.reduceSub, Nat.reduceLT, Int.reduceEq, Int.reduceLT, Int.reduceLE, Int.reduceNeg, Nat.reduceLeDiff, if_true, if_false, ↓reduceIte, forall_const, implies_true, reduceCtorEq, forall_eq_or_imp, forall_eq, ne_eq]
    · refine weakI ?_
      simp (maxSteps := 2000000) only [↓ctl, evl, val, valP, own, app, wrt, tys, Try.ntmps25, Try.results25, ↓V_convert, ↓V_bytes, stdl, cond_true, cond_false, Nat.reduceEqDiff, Nat.reduceAdd, Nat.reduceMul, Nat.reduceSub, Nat.reduceLT, Int.reduceEq, Int.reduceLT, Int.reduceLE, Int.reduceNeg, Nat.reduceLeDiff, if_true, if_false, ↓reduceIte, forall_const, implies_true, reduceCtorEq, forall_eq_or_imp, forall_eq, ne_eq]
      exact ⟨rfl, congrArg (Chunk.row _ _) hrow⟩
  · trivial
  rintro ⟨⟨i, used⟩, hi, hul, hx⟩
  simp only at hi hul hx
  by_cases hlt : i < f.inodes.length
  · have hst := restI_step (f := f) (u := used) hlt
    have hm : f.inodes.getD i default ∈ f.inodes := by rw [getD_get _ i _ hlt]; exact List.getElem_mem hlt
    obtain ⟨m1, m2⟩ := hk.nodes _ hm
    have m3 := m1.1
    generalize hn : f.inodes.getD i default = n at *
    simp (maxSteps := 2000000) only [↓ctl, evl, val, valP, own, app, wrt, tys, Try.ntmps25, Try.results25, ↓V_convert, ↓V_bytes, stdl, cond_true, cond_false, Nat.reduceEqDiff, Nat.reduceAdd, Nat.reduceMul, Nat.reduceSub, Nat.reduceLT, Int.reduceEq, Int.reduceLT, Int.reduceLE, Int.reduceNeg, Nat.reduceLeDiff, if_true, if_false, ↓reduceIte, forall_const, implies_true, reduceCtorEq, forall_eq_or_imp, forall_eq, ne_eq, hlt, hn, inodeRow_e, ints_map, acls_map]
    refine V_callF mixed (cap := []) (fun _ => c_IsInode n m1.fits m2) (by simp (maxSteps := 2000000) only [↓ctl, evl, val, valP, own, app, wrt, tys, Try.ntmps25, Try.results25, ↓V_convert, ↓V_bytes, stdl, cond_true, cond_false, Nat.reduceEqDiff, Nat.reduceAdd, Nat.reduceMul, Nat.reduceSub, Nat.reduceLT, Int.reduceEq, Int.reduceLT, Int.reduceLE, Int.reduceNeg, Nat.reduceLeDiff, if_true, if_false, ↓reduceIte, forall_const, implies_true, reduceCtorEq, forall_eq_or_imp, forall_eq, ne_eq, inodeAV, ints_map, acls_map]) (by simp (maxSteps := 2000000) only [↓ctl, evl, val, valP, own, app, wrt, tys, Try.ntmps25, Try.results25, ↓V_convert, ↓V_bytes, stdl, cond_true, cond_false, Nat.reduceEqDiff, Nat.reduceAdd, Nat.reduceMul, Nat.reduceSub, Nat.reduceLT, Int.reduceEq, Int.reduceLT, Int.reduceLE, Int.reduceNeg, Nat.reduceLeDiff, if_true, if_false, ↓reduceIte, forall_const, implies_true, reduceCtorEq, forall_eq_or_imp, forall_eq, ne_eq]) (by simp (maxSteps := 2000000) only [↓ctl, evl, val, valP, own, app, wrt, tys, Try.ntmps25, Try.results25, ↓V_convert, ↓V_bytes, stdl, cond_true, cond_false, Nat.reduceEqDiff, Nat.reduceAdd, Nat.reduceMul, Nat.reduceSub, Nat.reduceLT, Int.reduceEq, Int.reduceLT, Int.reduceLE, Int.reduceNeg, Nat.reduceLeDiff, if_true, if_false, ↓reduceIte, forall_const, implies_true, reduceCtorEq, forall_eq_or_imp, forall_eq, ne_eq]) trivial ?_
    simp (maxSteps := 2000000) only [↓ctl, evl, val, valP, own, app, wrt, tys, Try.ntmps25, Try.results25, ↓V_convert, ↓V_bytes, stdl, cond_true, cond_false, Nat.reduceEqDiff, Nat.reduceAdd, Nat.reduceMul, Nat.reduceSub, Nat.reduceLT, Int.reduceEq, Int.reduceLT, Int.reduceLE, Int.reduceNeg, Nat.reduceLeDiff, if_true, if_false, ↓reduceIte, forall_const, implies_true, reduceCtorEq, forall_eq_or_imp, forall_eq, ne_eq]
    refine ⟨fun h => ?_, fun h => ?_⟩
    · rw [hx, hst, h]; rfl
    rw [h] at hst
    obtain ⟨s1, s2, s3⟩ := isInode_size h
    have huid := isInode_uid h
    refine V_loopI mixed (ι := {p : Nat × List Bool // p.1 ≤ n.blocks.length ∧ p.2.length = 56 ∧ isFS f = (match useBs n.uid p.2 (n.blocks.drop p.1) with | none => false | some v => tailOk f.data n && restI f v (f.inodes.drop (i + 1))) ∧ (p.1 = n.blocks.length → tailOk f.data n = true)}) (fun p => ⟨[(1, true, .ptr 0 0 0 0), (7, true, .ptr 1 1 0 0), (79, true, .rd 10 (f.inodes.map inodeRow)), (80, true, I f.inodes.length), (81, true, I i), (9, true, .ptr 2 0 0 0), (89, true, .rd 1 (n.blocks.map intRow)), (90, true, I n.blocks.length), (91, true, I p.1.1)], [(2, .box 54 [I n.kind, I n.mode, I n.uid, I n.gid, I n.links, I n.size, I n.tick, .rd 1 (n.blocks.map intRow), .rd 3 (n.acl.map aclRow), .rd 3 (n.dflt.map aclRow)]), (1, .row 83 1 (p.1.2.map boolRow)), (0, .box 32 [I f.tick, .rd 2 (f.quotas.map quotaRow), .rd 10 (f.inodes.map inodeRow), .rd 1 (f.data.map strRow)])], 3, 154⟩) (fun p => n.blocks.length - p.1.1) ⟨(0, used), by simp only [List.drop_zero]; exact ⟨by omega, hul, hx.trans hst, fun h0 => by unfold tailOk; rw [if_pos h0.symm]⟩⟩ ?_ ?_ ?_
    · refine weakI ?_
      simp (maxSteps := 2000000) only [↓ctl, evl, val, valP, own, app, wrt, tys, Try.ntmps25, Try.results25, ↓V_convert, ↓V_bytes, stdl, cond_true, cond_false, Nat.reduceEqDiff, Nat.reduceAdd, Nat.reduceMul, Nat.reduceSub, Nat.reduceLT, Int.reduceEq, Int.reduceLT, Int.reduceLE, Int.reduceNeg, Nat.reduceLeDiff, if_true, if_false, ↓reduceIte, forall_const, implies_true, reduceCtorEq, forall_eq_or_imp, forall_eq, ne_eq]
      try rfl
    · trivial
    rintro ⟨⟨j, us⟩, hj, hl, hy, hz⟩
    simp only at hj hl hy hz
    by_cases hjl : j < n.blocks.length
    · have hbs := useBs_step (uid := n.uid) (used := us) hjl
      have hlast : j + 1 = n.blocks.length → n.blocks.getD (n.blocks.length - 1) default = n.blocks.getD j default := fun he => by rw [← he]; rfl
      have hnz : n.blocks.length ≠ 0 := by omega
      have hsz : 0 < n.size - (j : Int) * 32 ∧ (j : Int) * 32 < 256 ∧ (j + 1 = n.blocks.length → n.size - (j : Int) * 32 ≤ 32) ∧ (n.size - (j : Int) * 32 < 32 → j + 1 = n.blocks.length) := by
        unfold need at s3; split at s3 <;> omega
      have e3 : IntKind.i64.wrap ((j : Int) * 32) = (j : Int) * 32 := wrap_id (by omega) (by omega)
      have e4 : IntKind.i64.wrap (n.size - (j : Int) * 32) = n.size - (j : Int) * 32 := wrap_id (by omega) (by omega)
      generalize hbb : n.blocks.getD j default = b at *
      by_cases hb1 : b = -1
      · subst hb1
        simp (maxSteps := 2000000) only [↓ctl, evl, val, valP, own, app, wrt, tys, Try.ntmps25, Try.results25, ↓V_convert, ↓V_bytes, stdl, cond_true, cond_false, Nat.reduceEqDiff, Nat.reduceAdd, Nat.reduceMul, Nat.reduceSub, Nat.reduceLT, Int.reduceEq, Int.reduceLT, Int.reduceLE, Int.reduceNeg, Nat.reduceLeDiff, if_true, if_false, ↓reduceIte, forall_const, implies_true, reduceCtorEq, forall_eq_or_imp, forall_eq, ne_eq, hjl, hbb]
        refine V_backI ⟨(j + 1, us), ?_⟩ (by show _ - (j + 1) < _; omega) (weakI ?_)
        · refine ⟨by simp only; omega, hl, ?_, fun he => ?_⟩
          · rw [hy, hbs]; simp [useB]
          · unfold tailOk; rw [if_neg hnz, if_pos (hlast he)]
        · simp (maxSteps := 2000000) only [↓ctl, evl, val, valP, own, app, wrt, tys, Try.ntmps25, Try.results25, ↓V_convert, ↓V_bytes, stdl, cond_true, cond_false, Nat.reduceEqDiff, Nat.reduceAdd, Nat.reduceMul, Nat.reduceSub, Nat.reduceLT, Int.reduceEq, Int.reduceLT, Int.reduceLE, Int.reduceNeg, Nat.reduceLeDiff, if_true, if_false, ↓reduceIte, forall_const, implies_true, reduceCtorEq, forall_eq_or_imp, forall_eq, ne_eq]
          rw [wrap_id (by omega) (by omega)]
          rfl
      simp (maxSteps := 2000000) only [↓ctl, evl, val, valP, own, app, wrt, tys, Try.ntmps25, Try.results25, ↓V_convert, ↓V_bytes, stdl, cond_true, cond_false, Nat.reduceEqDiff, Nat.reduceAdd, Nat.reduceMul, Nat.reduceSub, Nat.reduceLT, Int.reduceEq, Int.reduceLT, Int.reduceLE, Int.reduceNeg, Nat.reduceLeDiff, if_true, if_false, ↓reduceIte, forall_const, implies_true, reduceCtorEq, forall_eq_or_imp, forall_eq, ne_eq, hjl, hbb, hb1]
      refine ⟨by kernel_rfl, ?_⟩
      refine V_callF mixed (cap := []) (fun _ => c_BlockOwner b) (by simp (maxSteps := 2000000) (contextual := true) only [↓ctl, evl, val, valP, own, app, wrt, tys, Try.ntmps25, Try.results25, ↓V_convert, ↓V_bytes, stdl, cond_true, cond_false, Nat.reduceEqDiff, Nat.reduceAdd, Nat.reduceMul, Nat.reduceSub, Nat.reduceLT, Int.reduceEq, Int.reduceLT, Int.reduceLE, Int.reduceNeg, Nat.reduceLeDiff, if_true, if_false, ↓reduceIte, forall_const, implies_true, reduceCtorEq, forall_eq_or_imp, forall_eq, ne_eq]) (by simp (maxSteps := 2000000) (contextual := true) only [↓ctl, evl, val, valP, own, app, wrt, tys, Try.ntmps25, Try.results25, ↓V_convert, ↓V_bytes, stdl, cond_true, cond_false, Nat.reduceEqDiff, Nat.reduceAdd, Nat.reduceMul, Nat.reduceSub, Nat.reduceLT, Int.reduceEq, Int.reduceLT, Int.reduceLE, Int.reduceNeg, Nat.reduceLeDiff, if_true, if_false, ↓reduceIte, forall_const, implies_true, reduceCtorEq, forall_eq_or_imp, forall_eq, ne_eq]) (by simp (maxSteps := 2000000) (contextual := true) only [↓ctl, evl, val, valP, own, app, wrt, tys, Try.ntmps25, Try.results25, ↓V_convert, ↓V_bytes, stdl, cond_true, cond_false, Nat.reduceEqDiff, Nat.reduceAdd, Nat.reduceMul, Nat.reduceSub, Nat.reduceLT, Int.reduceEq, Int.reduceLT, Int.reduceLE, Int.reduceNeg, Nat.reduceLeDiff, if_true, if_false, ↓reduceIte, forall_const, implies_true, reduceCtorEq, forall_eq_or_imp, forall_eq, ne_eq]) trivial ?_
      by_cases ho : ¬ owner b = n.uid
      · have ho' : (owner b == n.uid) = false := beq_eq_false_iff_ne.2 ho
        have hB : useB n.uid us b = none := by unfold useB; rw [if_neg hb1, if_neg (fun h => ho h.1)]
        rw [hbs, hB] at hy
        simp (maxSteps := 2000000) only [↓ctl, evl, val, valP, own, app, wrt, tys, Try.ntmps25, Try.results25, ↓V_convert, ↓V_bytes, stdl, cond_true, cond_false, Nat.reduceEqDiff, Nat.reduceAdd, Nat.reduceMul, Nat.reduceSub, Nat.reduceLT, Int.reduceEq, Int.reduceLT, Int.reduceLE, Int.reduceNeg, Nat.reduceLeDiff, if_true, if_false, ↓reduceIte, forall_const, implies_true, reduceCtorEq, forall_eq_or_imp, forall_eq, ne_eq, ho, ho']
        exact hy.symm
      have ho : owner b = n.uid := Classical.not_not.1 ho
      obtain ⟨o1, o2⟩ := owner_in ho huid
      have o3 : b.toNat < us.length := by omega
      have o4 : b.toNat < f.data.length := by omega
      have o5 : b < f.data.length := by omega
      have hd32 : (f.data.getD b.toNat default).length = 32 := hlen _ (by rw [getD_get _ _ _ o4]; exact List.getElem_mem o4)
      simp (maxSteps := 2000000) only [↓ctl, evl, val, valP, own, app, wrt, tys, Try.ntmps25, Try.results25, ↓V_convert, ↓V_bytes, stdl, cond_true, cond_false, Nat.reduceEqDiff, Nat.reduceAdd, Nat.reduceMul, Nat.reduceSub, Nat.reduceLT, Int.reduceEq, Int.reduceLT, Int.reduceLE, Int.reduceNeg, Nat.reduceLeDiff, if_true, if_false, ↓reduceIte, forall_const, implies_true, reduceCtorEq, forall_eq_or_imp, forall_eq, ne_eq, ho, o1, o2, o3, o4, o5, e3, e4, hd32]
      refine ⟨⟨56, 4, ⟨rfl, rfl⟩, by omega, by omega⟩, fun hu => ?_, fun hu => ⟨⟨56, 4, ⟨rfl, rfl⟩, by omega, by omega⟩, ?_⟩⟩
      · have hB : useB n.uid us b = none := by unfold useB; rw [if_neg hb1, if_neg (fun h' => by rw [hu] at h'; exact absurd h'.2 (by simp))]
        rw [hbs, hB] at hy
        exact hy.symm
      have hB : useB n.uid us b = some (us.set b.toNat true) := by unfold useB; rw [if_neg hb1, if_pos ⟨ho, hu⟩]
      rw [hbs, hB] at hy
      have hto : j + 1 = n.blocks.length → tailOk f.data n = zeroes ((f.data.getD b.toNat default).drop (n.size - (j : Int) * 32).toNat) := fun he => by
        unfold tailOk; rw [if_neg hnz, hlast he, if_neg hb1]; congr 3; omega
      have tk : List.take (32 - (n.size - (j : Int) * 32).toNat) (List.drop (n.size - (j : Int) * 32).toNat (f.data.getD b.toNat default)) = List.drop (n.size - (j : Int) * 32).toNat (f.data.getD b.toNat default) := List.take_of_length_le (by rw [List.length_drop, hd32]; omega)
      refine ⟨fun h => ⟨h, h, by omega, by omega⟩, ?_⟩
      refine V_callF mixed (cap := []) (fun _ => c_IsZeroes (List.drop (n.size - (j : Int) * 32).toNat (f.data.getD b.toNat default)) (by rw [List.length_drop, hd32]; omega)) (by simp (maxSteps := 2000000) (contextual := true) only [↓ctl, evl, val, valP, own, app, wrt, tys, Try.ntmps25, Try.results25, ↓V_convert, ↓V_bytes, stdl, cond_true, cond_false, Nat.reduceEqDiff, Nat.reduceAdd, Nat.reduceMul, Nat.reduceSub, Nat.reduceLT, Int.reduceEq, Int.reduceLT, Int.reduceLE, Int.reduceNeg, Nat.reduceLeDiff, if_true, if_false, ↓reduceIte, forall_const, implies_true, reduceCtorEq, forall_eq_or_imp, forall_eq, ne_eq, tk]) (by simp (maxSteps := 2000000) (contextual := true) only [↓ctl, evl, val, valP, own, app, wrt, tys, Try.ntmps25, Try.results25, ↓V_convert, ↓V_bytes, stdl, cond_true, cond_false, Nat.reduceEqDiff, Nat.reduceAdd, Nat.reduceMul, Nat.reduceSub, Nat.reduceLT, Int.reduceEq, Int.reduceLT, Int.reduceLE, Int.reduceNeg, Nat.reduceLeDiff, if_true, if_false, ↓reduceIte, forall_const, implies_true, reduceCtorEq, forall_eq_or_imp, forall_eq, ne_eq]) (by simp (maxSteps := 2000000) (contextual := true) only [↓ctl, evl, val, valP, own, app, wrt, tys, Try.ntmps25, Try.results25, ↓V_convert, ↓V_bytes, stdl, cond_true, cond_false, Nat.reduceEqDiff, Nat.reduceAdd, Nat.reduceMul, Nat.reduceSub, Nat.reduceLT, Int.reduceEq, Int.reduceLT, Int.reduceLE, Int.reduceNeg, Nat.reduceLeDiff, if_true, if_false, ↓reduceIte, forall_const, implies_true, reduceCtorEq, forall_eq_or_imp, forall_eq, ne_eq]) trivial ?_
      simp (maxSteps := 2000000) only [↓ctl, evl, val, valP, own, app, wrt, tys, Try.ntmps25, Try.results25, ↓V_convert, ↓V_bytes, stdl, cond_true, cond_false, Nat.reduceEqDiff, Nat.reduceAdd, Nat.reduceMul, Nat.reduceSub, Nat.reduceLT, Int.reduceEq, Int.reduceLT, Int.reduceLE, Int.reduceNeg, Nat.reduceLeDiff, if_true, if_false, ↓reduceIte, forall_const, implies_true, reduceCtorEq, forall_eq_or_imp, forall_eq, ne_eq]
      refine ⟨fun hz' => ?_, fun hz' => V_backI ⟨(j + 1, us.set b.toNat true), ?_⟩ (by show _ - (j + 1) < _; omega) (weakI ?_)⟩
      · have ht0 : tailOk f.data n = false := by rw [hto (hsz.2.2.2 hz'.1)]; exact hz'.2
        rw [ht0] at hy
        rw [hy]
        show false = match useBs n.uid (us.set b.toNat true) (n.blocks.drop (j + 1)) with | none => false | some v => false && restI f v (f.inodes.drop (i + 1))
        cases useBs n.uid (us.set b.toNat true) (n.blocks.drop (j + 1)) <;> rfl
      · refine ⟨by simp only; omega, by simp only [List.length_set]; exact hl, hy, fun he => ?_⟩
        rw [hto he]
        by_cases h32 : n.size - (j : Int) * 32 < 32
        · exact hz' h32
        · have : List.drop (n.size - (j : Int) * 32).toNat (f.data.getD b.toNat default) = [] := List.drop_eq_nil_of_le (by rw [hd32]; omega)
          rw [this]; rfl
      · simp (maxSteps := 2000000) only [↓ctl, evl, val, valP, own, app, wrt, tys, Try.ntmps25, Try.results25, ↓V_convert, ↓V_bytes, stdl, cond_true, cond_false, Nat.reduceEqDiff, Nat.reduceAdd, Nat.reduceMul, Nat.reduceSub, Nat.reduceLT, Int.reduceEq, Int.reduceLT, Int.reduceLE, Int.reduceNeg, Nat.reduceLeDiff, if_true, if_false, ↓reduceIte, forall_const, implies_true, reduceCtorEq, forall_eq_or_imp, forall_eq, ne_eq]
        rw [wrap_id (by omega) (by omega)]
        exact ⟨rfl, congrArg (Chunk.row _ _) (set_map_fn boolRow us b.toNat true)⟩
    · simp (maxSteps := 2000000) only [↓ctl, evl, val, valP, own, app, wrt, tys, Try.ntmps25, Try.results25, ↓V_convert, ↓V_bytes, stdl, cond_true, cond_false, Nat.reduceEqDiff, Nat.reduceAdd, Nat.reduceMul, Nat.reduceSub, Nat.reduceLT, Int.reduceEq, Int.reduceLT, Int.reduceLE, Int.reduceNeg, Nat.reduceLeDiff, if_true, if_false, ↓reduceIte, forall_const, implies_true, reduceCtorEq, forall_eq_or_imp, forall_eq, ne_eq, hjl]
      have hend : useBs n.uid us (n.blocks.drop j) = some us := by rw [drop_end _ _ hjl]; rfl
      rw [hend, hz (by omega)] at hy
      refine V_backI ⟨(i + 1, us), by simp only; omega, hl, hy⟩ (by show _ - (i + 1) < _; omega) (weakI ?_)
      simp (maxSteps := 2000000) only [↓ctl, evl, val, valP, own, app, wrt, tys, Try.ntmps25, Try.results25, ↓V_convert, ↓V_bytes, stdl, cond_true, cond_false, Nat.reduceEqDiff, Nat.reduceAdd, Nat.reduceMul, Nat.reduceSub, Nat.reduceLT, Int.reduceEq, Int.reduceLT, Int.reduceLE, Int.reduceNeg, Nat.reduceLeDiff, if_true, if_false, ↓reduceIte, forall_const, implies_true, reduceCtorEq, forall_eq_or_imp, forall_eq, ne_eq]
      rw [wrap_id (by omega) (by omega)]
      rfl
  have hF : isFS f = finI f used := by rw [hx, drop_end _ _ hlt]; rfl
  simp (maxSteps := 2000000) only [↓ctl, evl, val, valP, own, app, wrt, tys, Try.ntmps25, Try.results25, ↓V_convert, ↓V_bytes, stdl, cond_true, cond_false, Nat.reduceEqDiff, Nat.reduceAdd, Nat.reduceMul, Nat.reduceSub, Nat.reduceLT, Int.reduceEq, Int.reduceLT, Int.reduceLE, Int.reduceNeg, Nat.reduceLeDiff, if_true, if_false, ↓reduceIte, forall_const, implies_true, reduceCtorEq, forall_eq_or_imp, forall_eq, ne_eq, hlt]
  clear hx hlt hi
  refine V_loopI mixed (ι := {i : Nat // i ≤ f.data.length ∧ freeOk used f.data = freeOk (used.drop i) (f.data.drop i)}) (fun i => ⟨[(1, true, .ptr 0 0 0 0), (7, true, .ptr 1 1 0 0), (131, true, .rd 1 (f.data.map strRow)), (132, true, I f.data.length), (133, true, I i.1)], [(1, .row 83 1 (used.map boolRow)), (0, .box 32 [I f.tick, .rd 2 (f.quotas.map quotaRow), .rd 10 (f.inodes.map inodeRow), .rd 1 (f.data.map strRow)])], 2, 154⟩) (fun i => f.data.length - i.1)  ⟨0, by simp⟩ ?_ ?_ ?_
  · refine weakI ?_
    simp (maxSteps := 2000000) only [↓ctl, evl, val, valP, own, app, wrt, tys, Try.ntmps25, Try.results25, ↓V_convert, ↓V_bytes, stdl, cond_true, cond_false, Nat.reduceEqDiff, Nat.reduceAdd, Nat.reduceMul, Nat.reduceSub, Nat.reduceLT, Int.reduceEq, Int.reduceLT, Int.reduceLE, Int.reduceNeg, Nat.reduceLeDiff, if_true, if_false, ↓reduceIte, forall_const, implies_true, reduceCtorEq, forall_eq_or_imp, forall_eq, ne_eq]
    try rfl
  · trivial
  rintro ⟨i, hi, hy⟩
  by_cases hlt : i < f.data.length
  · have hst2 := freeOk_step (us := used) hlt (by omega)
    have e3 : i < used.length := by omega
    have ht := hk.texts _ (show f.data.getD i default ∈ f.data by rw [getD_get _ i _ hlt]; exact List.getElem_mem hlt)
    simp (maxSteps := 2000000) only [↓ctl, evl, val, valP, own, app, wrt, tys, Try.ntmps25, Try.results25, ↓V_convert, ↓V_bytes, stdl, cond_true, cond_false, Nat.reduceEqDiff, Nat.reduceAdd, Nat.reduceMul, Nat.reduceSub, Nat.reduceLT, Int.reduceEq, Int.reduceLT, Int.reduceLE, Int.reduceNeg, Nat.reduceLeDiff, if_true, if_false, ↓reduceIte, forall_const, implies_true, reduceCtorEq, forall_eq_or_imp, forall_eq, ne_eq, hlt, e3]
    refine ⟨⟨56, 4, ⟨rfl, rfl⟩, by omega, by omega⟩, ?_⟩
    refine V_callF mixed (cap := []) (fun _ => c_IsZeroes (f.data.getD i default) (by omega)) (by simp (maxSteps := 2000000) (contextual := true) only [↓ctl, evl, val, valP, own, app, wrt, tys, Try.ntmps25, Try.results25, ↓V_convert, ↓V_bytes, stdl, cond_true, cond_false, Nat.reduceEqDiff, Nat.reduceAdd, Nat.reduceMul, Nat.reduceSub, Nat.reduceLT, Int.reduceEq, Int.reduceLT, Int.reduceLE, Int.reduceNeg, Nat.reduceLeDiff, if_true, if_false, ↓reduceIte, forall_const, implies_true, reduceCtorEq, forall_eq_or_imp, forall_eq, ne_eq]) (by simp (maxSteps := 2000000) (contextual := true) only [↓ctl, evl, val, valP, own, app, wrt, tys, Try.ntmps25, Try.results25, ↓V_convert, ↓V_bytes, stdl, cond_true, cond_false, Nat.reduceEqDiff, Nat.reduceAdd, Nat.reduceMul, Nat.reduceSub, Nat.reduceLT, Int.reduceEq, Int.reduceLT, Int.reduceLE, Int.reduceNeg, Nat.reduceLeDiff, if_true, if_false, ↓reduceIte, forall_const, implies_true, reduceCtorEq, forall_eq_or_imp, forall_eq, ne_eq]) (by simp (maxSteps := 2000000) (contextual := true) only [↓ctl, evl, val, valP, own, app, wrt, tys, Try.ntmps25, Try.results25, ↓V_convert, ↓V_bytes, stdl, cond_true, cond_false, Nat.reduceEqDiff, Nat.reduceAdd, Nat.reduceMul, Nat.reduceSub, Nat.reduceLT, Int.reduceEq, Int.reduceLT, Int.reduceLE, Int.reduceNeg, Nat.reduceLeDiff, if_true, if_false, ↓reduceIte, forall_const, implies_true, reduceCtorEq, forall_eq_or_imp, forall_eq, ne_eq]) trivial ?_
    simp (maxSteps := 2000000) only [↓ctl, evl, val, valP, own, app, wrt, tys, Try.ntmps25, Try.results25, ↓V_convert, ↓V_bytes, stdl, cond_true, cond_false, Nat.reduceEqDiff, Nat.reduceAdd, Nat.reduceMul, Nat.reduceSub, Nat.reduceLT, Int.reduceEq, Int.reduceLT, Int.reduceLE, Int.reduceNeg, Nat.reduceLeDiff, if_true, if_false, ↓reduceIte, forall_const, implies_true, reduceCtorEq, forall_eq_or_imp, forall_eq, ne_eq]
    refine ⟨fun h => ?_, fun h => V_backI ⟨i + 1, by omega, ?_⟩ (by show _ - (i + 1) < _; omega) (weakI ?_)⟩
    · rw [hF]; unfold finI; rw [hy, hst2, h.1, h.2]; rfl
    · rw [hy, hst2]; grind
    · simp (maxSteps := 2000000) only [↓ctl, evl, val, valP, own, app, wrt, tys, Try.ntmps25, Try.results25, ↓V_convert, ↓V_bytes, stdl, cond_true, cond_false, Nat.reduceEqDiff, Nat.reduceAdd, Nat.reduceMul, Nat.reduceSub, Nat.reduceLT, Int.reduceEq, Int.reduceLT, Int.reduceLE, Int.reduceNeg, Nat.reduceLeDiff, if_true, if_false, ↓reduceIte, forall_const, implies_true, reduceCtorEq, forall_eq_or_imp, forall_eq, ne_eq]
      rw [wrap_id (by omega) (by omega)]
      rfl
  have hfr : freeOk used f.data = true := by rw [hy, freeOk_end hlt]
  have z0 : (0 : Nat) < f.inodes.length := by omega
  simp (maxSteps := 2000000) only [↓ctl, evl, val, valP, own, app, wrt, tys, Try.ntmps25, Try.results25, ↓V_convert, ↓V_bytes, stdl, cond_true, cond_false, Nat.reduceEqDiff, Nat.reduceAdd, Nat.reduceMul, Nat.reduceSub, Nat.reduceLT, Int.reduceEq, Int.reduceLT, Int.reduceLE, Int.reduceNeg, Nat.reduceLeDiff, if_true, if_false, ↓reduceIte, forall_const, implies_true, reduceCtorEq, forall_eq_or_imp, forall_eq, ne_eq, hlt, z0, inodeRow_e]
  refine ⟨by omega, ?_⟩
  rw [hF]; unfold finI; rw [hfr]; rfl
end Go.Proofs.Ytobnbajakenbeaa


/- Contracts: the superblock.  -/
set_option linter.all false
set_option maxRecDepth 10000
set_option maxHeartbeats 4000000
namespace Go.Proofs.Ytobnbajakenbeaa
open Go Go.Eng

def superHead (t : Int) : List UInt8 := [70, 83, 89, 83] ++ putNum t 4
def quotaB (q : Quota) : List UInt8 := putNum q.inodes 1 ++ putNum q.blocks 1
def quotaBs (l : List Quota) (i : Nat) : List UInt8 := ((l.take i).map quotaB).flatten
def superB (f : FS) : List UInt8 := padTo (superHead f.tick ++ quotaBs f.quotas f.quotas.length) 32
theorem quotaBs_succ {l : List Quota} {i : Nat} (h : i < l.length) : quotaBs l (i + 1) = quotaBs l i ++ quotaB (l.getD i default) := by
  unfold quotaBs; rw [List.take_succ, List.map_append, List.flatten_append, getD_get l i default h, List.getElem?_eq_getElem h]; simp
theorem quotaBs_len (l : List Quota) (i : Nat) : (quotaBs l i).length ≤ 2 * i := by
  unfold quotaBs
  induction i generalizing l with
  | zero => simp
  | succ i ih =>
    cases l with
    | nil => simp
    | cons q l =>
      have := ih l
      have q1 := putNum_len q.inodes 1
      have q2 := putNum_len q.blocks 1
      simp only [List.take_succ_cons, List.map_cons, List.flatten_cons, List.length_append, quotaB]
      omega
structure FS.ints (f : FS) : Prop where
  tick : In64 f.tick
  quotas : ∀ q ∈ f.quotas, In64 q.inodes ∧ In64 q.blocks
theorem d_Super (f : FS) (hk : f.ints) (hq : f.quotas.length = 4) : Gives Go.Proofs.Try.prog 49 [fsAV f] (str (superB f)) := by
  refine gives_of_V mixed Go.Proofs.Try.call49 Go.Proofs.Try.func49 rfl (by rw [Go.Proofs.Try.ntmps49]; simp) ?_
  simp (maxSteps := 2000000) only [↓ctl, evl, val, valP, own, app, wrt, tys, Try.ntmps49, Try.results49, ↓V_convert, ↓V_bytes, stdl, cond_true, cond_false, Nat.reduceEqDiff, Nat.reduceAdd, Nat.reduceMul, Nat.reduceSub, Nat.reduceLT, Int.reduceEq, Int.reduceLT, Int.reduceLE, Int.reduceNeg, Nat.reduceLeDiff, if_true, if_false, ↓reduceIte, forall_const, implies_true, reduceCtorEq, forall_eq_or_imp, forall_eq, ne_eq, fsAV]
  have ht := putNum_len f.tick 4
  refine V_callF mixed (cap := []) (fun _ => d_Put4 f.tick hk.tick) (by simp (maxSteps := 2000000) (contextual := true) only [↓ctl, evl, val, valP, own, app, wrt, tys, Try.ntmps49, Try.results49, ↓V_convert, ↓V_bytes, stdl, cond_true, cond_false, Nat.reduceEqDiff, Nat.reduceAdd, Nat.reduceMul, Nat.reduceSub, Nat.reduceLT, Int.reduceEq, Int.reduceLT, Int.reduceLE, Int.reduceNeg, Nat.reduceLeDiff, if_true, if_false, ↓reduceIte, forall_const, implies_true, reduceCtorEq, forall_eq_or_imp, forall_eq, ne_eq]) (by simp (maxSteps := 2000000) (contextual := true) only [↓ctl, evl, val, valP, own, app, wrt, tys, Try.ntmps49, Try.results49, ↓V_convert, ↓V_bytes, stdl, cond_true, cond_false, Nat.reduceEqDiff, Nat.reduceAdd, Nat.reduceMul, Nat.reduceSub, Nat.reduceLT, Int.reduceEq, Int.reduceLT, Int.reduceLE, Int.reduceNeg, Nat.reduceLeDiff, if_true, if_false, ↓reduceIte, forall_const, implies_true, reduceCtorEq, forall_eq_or_imp, forall_eq, ne_eq]) (by simp (maxSteps := 2000000) (contextual := true) only [↓ctl, evl, val, valP, own, app, wrt, tys, Try.ntmps49, Try.results49, ↓V_convert, ↓V_bytes, stdl, cond_true, cond_false, Nat.reduceEqDiff, Nat.reduceAdd, Nat.reduceMul, Nat.reduceSub, Nat.reduceLT, Int.reduceEq, Int.reduceLT, Int.reduceLE, Int.reduceNeg, Nat.reduceLeDiff, if_true, if_false, ↓reduceIte, forall_const, implies_true, reduceCtorEq, forall_eq_or_imp, forall_eq, ne_eq]) trivial ?_
  simp (maxSteps := 2000000) only [↓ctl, evl, val, valP, own, app, wrt, tys, Try.ntmps49, Try.results49, ↓V_convert, ↓V_bytes, stdl, cond_true, cond_false, Nat.reduceEqDiff, Nat.reduceAdd, Nat.reduceMul, Nat.reduceSub, Nat.reduceLT, Int.reduceEq, Int.reduceLT, Int.reduceLE, Int.reduceNeg, Nat.reduceLeDiff, if_true, if_false, ↓reduceIte, forall_const, implies_true, reduceCtorEq, forall_eq_or_imp, forall_eq, ne_eq]
  refine ⟨by omega, ?_⟩
  refine V_loopI mixed (ι := {i : Nat // i ≤ f.quotas.length}) (fun i => ⟨[(1, true, .ptr 0 0 0 0), (3, true, Sx (superHead f.tick ++ quotaBs f.quotas i.1)), (11, true, .rd 2 (f.quotas.map quotaRow)), (12, true, I f.quotas.length), (13, true, I i.1)], [(0, .box 32 [I f.tick, .rd 2 (f.quotas.map quotaRow), .rd 10 (f.inodes.map inodeRow), .rd 1 (f.data.map strRow)])], 1, 29⟩) (fun i => f.quotas.length - i.1)  ⟨0, by omega⟩ ?_ ?_ ?_
  · refine weakI ?_
    simp (maxSteps := 2000000) only [↓ctl, evl, val, valP, own, app, wrt, tys, Try.ntmps49, Try.results49, ↓V_convert, ↓V_bytes, stdl, cond_true, cond_false, Nat.reduceEqDiff, Nat.reduceAdd, Nat.reduceMul, Nat.reduceSub, Nat.reduceLT, Int.reduceEq, Int.reduceLT, Int.reduceLE, Int.reduceNeg, Nat.reduceLeDiff, if_true, if_false, ↓reduceIte, forall_const, implies_true, reduceCtorEq, forall_eq_or_imp, forall_eq, ne_eq]
    simp [superHead, quotaBs]
  · trivial
  rintro ⟨i, hi⟩
  have hbl := quotaBs_len f.quotas i
  have hhl : (superHead f.tick).length ≤ 8 := by unfold superHead; simp only [List.length_append, List.length_cons, List.length_nil]; omega
  by_cases hlt : i < f.quotas.length
  · obtain ⟨m1, m2⟩ := hk.quotas _ (show f.quotas.getD i default ∈ f.quotas by rw [getD_get _ i _ hlt]; exact List.getElem_mem hlt)
    have hst := quotaBs_succ hlt
    have q1 := putNum_len (f.quotas.getD i default).inodes 1
    have q2 := putNum_len (f.quotas.getD i default).blocks 1
    simp (maxSteps := 2000000) only [↓ctl, evl, val, valP, own, app, wrt, tys, Try.ntmps49, Try.results49, ↓V_convert, ↓V_bytes, stdl, cond_true, cond_false, Nat.reduceEqDiff, Nat.reduceAdd, Nat.reduceMul, Nat.reduceSub, Nat.reduceLT, Int.reduceEq, Int.reduceLT, Int.reduceLE, Int.reduceNeg, Nat.reduceLeDiff, if_true, if_false, ↓reduceIte, forall_const, implies_true, reduceCtorEq, forall_eq_or_imp, forall_eq, ne_eq, hlt, quotaRow_e]
    refine ⟨by kernel_rfl, ?_⟩
    refine V_callF mixed (cap := []) (fun _ => d_Put1 (f.quotas.getD i default).inodes m1) (by simp (maxSteps := 2000000) (contextual := true) only [↓ctl, evl, val, valP, own, app, wrt, tys, Try.ntmps49, Try.results49, ↓V_convert, ↓V_bytes, stdl, cond_true, cond_false, Nat.reduceEqDiff, Nat.reduceAdd, Nat.reduceMul, Nat.reduceSub, Nat.reduceLT, Int.reduceEq, Int.reduceLT, Int.reduceLE, Int.reduceNeg, Nat.reduceLeDiff, if_true, if_false, ↓reduceIte, forall_const, implies_true, reduceCtorEq, forall_eq_or_imp, forall_eq, ne_eq]) (by simp (maxSteps := 2000000) (contextual := true) only [↓ctl, evl, val, valP, own, app, wrt, tys, Try.ntmps49, Try.results49, ↓V_convert, ↓V_bytes, stdl, cond_true, cond_false, Nat.reduceEqDiff, Nat.reduceAdd, Nat.reduceMul, Nat.reduceSub, Nat.reduceLT, Int.reduceEq, Int.reduceLT, Int.reduceLE, Int.reduceNeg, Nat.reduceLeDiff, if_true, if_false, ↓reduceIte, forall_const, implies_true, reduceCtorEq, forall_eq_or_imp, forall_eq, ne_eq]) (by simp (maxSteps := 2000000) (contextual := true) only [↓ctl, evl, val, valP, own, app, wrt, tys, Try.ntmps49, Try.results49, ↓V_convert, ↓V_bytes, stdl, cond_true, cond_false, Nat.reduceEqDiff, Nat.reduceAdd, Nat.reduceMul, Nat.reduceSub, Nat.reduceLT, Int.reduceEq, Int.reduceLT, Int.reduceLE, Int.reduceNeg, Nat.reduceLeDiff, if_true, if_false, ↓reduceIte, forall_const, implies_true, reduceCtorEq, forall_eq_or_imp, forall_eq, ne_eq]) trivial ?_
    simp (maxSteps := 2000000) only [↓ctl, evl, val, valP, own, app, wrt, tys, Try.ntmps49, Try.results49, ↓V_convert, ↓V_bytes, stdl, cond_true, cond_false, Nat.reduceEqDiff, Nat.reduceAdd, Nat.reduceMul, Nat.reduceSub, Nat.reduceLT, Int.reduceEq, Int.reduceLT, Int.reduceLE, Int.reduceNeg, Nat.reduceLeDiff, if_true, if_false, ↓reduceIte, forall_const, implies_true, reduceCtorEq, forall_eq_or_imp, forall_eq, ne_eq]
    refine ⟨by simp only [List.length_append]; omega, ?_⟩
    refine V_callF mixed (cap := []) (fun _ => d_Put1 (f.quotas.getD i default).blocks m2) (by simp (maxSteps := 2000000) (contextual := true) only [↓ctl, evl, val, valP, own, app, wrt, tys, Try.ntmps49, Try.results49, ↓V_convert, ↓V_bytes, stdl, cond_true, cond_false, Nat.reduceEqDiff, Nat.reduceAdd, Nat.reduceMul, Nat.reduceSub, Nat.reduceLT, Int.reduceEq, Int.reduceLT, Int.reduceLE, Int.reduceNeg, Nat.reduceLeDiff, if_true, if_false, ↓reduceIte, forall_const, implies_true, reduceCtorEq, forall_eq_or_imp, forall_eq, ne_eq]) (by simp (maxSteps := 2000000) (contextual := true) only [↓ctl, evl, val, valP, own, app, wrt, tys, Try.ntmps49, Try.results49, ↓V_convert, ↓V_bytes, stdl, cond_true, cond_false, Nat.reduceEqDiff, Nat.reduceAdd, Nat.reduceMul, Nat.reduceSub, Nat.reduceLT, Int.reduceEq, Int.reduceLT, Int.reduceLE, Int.reduceNeg, Nat.reduceLeDiff, if_true, if_false, ↓reduceIte, forall_const, implies_true, reduceCtorEq, forall_eq_or_imp, forall_eq, ne_eq]) (by simp (maxSteps := 2000000) (contextual := true) only [↓ctl, evl, val, valP, own, app, wrt, tys, Try.ntmps49, Try.results49, ↓V_convert, ↓V_bytes, stdl, cond_true, cond_false, Nat.reduceEqDiff, Nat.reduceAdd, Nat.reduceMul, Nat.reduceSub, Nat.reduceLT, Int.reduceEq, Int.reduceLT, Int.reduceLE, Int.reduceNeg, Nat.reduceLeDiff, if_true, if_false, ↓reduceIte, forall_const, implies_true, reduceCtorEq, forall_eq_or_imp, forall_eq, ne_eq]) trivial ?_
    simp (maxSteps := 2000000) only [↓ctl, evl, val, valP, own, app, wrt, tys, Try.ntmps49, Try.results49, ↓V_convert, ↓V_bytes, stdl, cond_true, cond_false, Nat.reduceEqDiff, Nat.reduceAdd, Nat.reduceMul, Nat.reduceSub, Nat.reduceLT, Int.reduceEq, Int.reduceLT, Int.reduceLE, Int.reduceNeg, Nat.reduceLeDiff, if_true, if_false, ↓reduceIte, forall_const, implies_true, reduceCtorEq, forall_eq_or_imp, forall_eq, ne_eq]
    refine ⟨by simp only [List.length_append]; omega, V_backI ⟨i + 1, by omega⟩ (by show _ - (i + 1) < _; omega) (weakI ?_)⟩
    simp (maxSteps := 2000000) only [↓ctl, evl, val, valP, own, app, wrt, tys, Try.ntmps49, Try.results49, ↓V_convert, ↓V_bytes, stdl, cond_true, cond_false, Nat.reduceEqDiff, Nat.reduceAdd, Nat.reduceMul, Nat.reduceSub, Nat.reduceLT, Int.reduceEq, Int.reduceLT, Int.reduceLE, Int.reduceNeg, Nat.reduceLeDiff, if_true, if_false, ↓reduceIte, forall_const, implies_true, reduceCtorEq, forall_eq_or_imp, forall_eq, ne_eq]
    rw [wrap_id (by omega) (by omega), hst]
    unfold quotaB
    simp only [List.append_assoc]
    exact ⟨trivial, rfl⟩
  · have : i = f.quotas.length := by omega
    subst this
    simp (maxSteps := 2000000) only [↓ctl, evl, val, valP, own, app, wrt, tys, Try.ntmps49, Try.results49, ↓V_convert, ↓V_bytes, stdl, cond_true, cond_false, Nat.reduceEqDiff, Nat.reduceAdd, Nat.reduceMul, Nat.reduceSub, Nat.reduceLT, Int.reduceEq, Int.reduceLT, Int.reduceLE, Int.reduceNeg, Nat.reduceLeDiff, if_true, if_false, ↓reduceIte, forall_const, implies_true, reduceCtorEq, forall_eq_or_imp, forall_eq, ne_eq, hlt]
    refine V_callF mixed (cap := []) (fun _ => d_PadI (superHead f.tick ++ quotaBs f.quotas f.quotas.length) 32 32 rfl (by simp only [List.length_append]; omega) (by omega)) (by simp (maxSteps := 2000000) (contextual := true) only [↓ctl, evl, val, valP, own, app, wrt, tys, Try.ntmps49, Try.results49, ↓V_convert, ↓V_bytes, stdl, cond_true, cond_false, Nat.reduceEqDiff, Nat.reduceAdd, Nat.reduceMul, Nat.reduceSub, Nat.reduceLT, Int.reduceEq, Int.reduceLT, Int.reduceLE, Int.reduceNeg, Nat.reduceLeDiff, if_true, if_false, ↓reduceIte, forall_const, implies_true, reduceCtorEq, forall_eq_or_imp, forall_eq, ne_eq]) (by simp (maxSteps := 2000000) (contextual := true) only [↓ctl, evl, val, valP, own, app, wrt, tys, Try.ntmps49, Try.results49, ↓V_convert, ↓V_bytes, stdl, cond_true, cond_false, Nat.reduceEqDiff, Nat.reduceAdd, Nat.reduceMul, Nat.reduceSub, Nat.reduceLT, Int.reduceEq, Int.reduceLT, Int.reduceLE, Int.reduceNeg, Nat.reduceLeDiff, if_true, if_false, ↓reduceIte, forall_const, implies_true, reduceCtorEq, forall_eq_or_imp, forall_eq, ne_eq]) (by simp (maxSteps := 2000000) (contextual := true) only [↓ctl, evl, val, valP, own, app, wrt, tys, Try.ntmps49, Try.results49, ↓V_convert, ↓V_bytes, stdl, cond_true, cond_false, Nat.reduceEqDiff, Nat.reduceAdd, Nat.reduceMul, Nat.reduceSub, Nat.reduceLT, Int.reduceEq, Int.reduceLT, Int.reduceLE, Int.reduceNeg, Nat.reduceLeDiff, if_true, if_false, ↓reduceIte, forall_const, implies_true, reduceCtorEq, forall_eq_or_imp, forall_eq, ne_eq]) trivial ?_
    simp (maxSteps := 2000000) only [↓ctl, evl, val, valP, own, app, wrt, tys, Try.ntmps49, Try.results49, ↓V_convert, ↓V_bytes, stdl, cond_true, cond_false, Nat.reduceEqDiff, Nat.reduceAdd, Nat.reduceMul, Nat.reduceSub, Nat.reduceLT, Int.reduceEq, Int.reduceLT, Int.reduceLE, Int.reduceNeg, Nat.reduceLeDiff, if_true, if_false, ↓reduceIte, forall_const, implies_true, reduceCtorEq, forall_eq_or_imp, forall_eq, ne_eq]
    try rfl
theorem c_Super (f : FS) (hk : f.ints) (hq : f.quotas.length = 4) : Gives Go.Proofs.Try.prog 26 [.rq [I f.tick, .rd 2 (f.quotas.map quotaRow), .rd 10 (f.inodes.map inodeRow), .rd 1 (f.data.map strRow)] 0] (str (superB f)) := by
  refine gives_of_V mixed Go.Proofs.Try.call26 Go.Proofs.Try.func26 rfl (by rw [Go.Proofs.Try.ntmps26]; simp) ?_
  simp (maxSteps := 2000000) only [↓ctl, evl, val, valP, own, app, wrt, tys, Try.ntmps26, Try.results26, ↓V_convert, ↓V_bytes, stdl, cond_true, cond_false, Nat.reduceEqDiff, Nat.reduceAdd, Nat.reduceMul, Nat.reduceSub, Nat.reduceLT, Int.reduceEq, Int.reduceLT, Int.reduceLE, Int.reduceNeg, Nat.reduceLeDiff, if_true, if_false, ↓reduceIte, forall_const, implies_true, reduceCtorEq, forall_eq_or_imp, forall_eq, ne_eq]
  have ht := putNum_len f.tick 4
  refine V_callF mixed (cap := []) (fun _ => c_Put4 f.tick hk.tick) (by simp (maxSteps := 2000000) (contextual := true) only [↓ctl, evl, val, valP, own, app, wrt, tys, Try.ntmps26, Try.results26, ↓V_convert, ↓V_bytes, stdl, cond_true, cond_false, Nat.reduceEqDiff, Nat.reduceAdd, Nat.reduceMul, Nat.reduceSub, Nat.reduceLT, Int.reduceEq, Int.reduceLT, Int.reduceLE, Int.reduceNeg, Nat.reduceLeDiff, if_true, if_false, ↓reduceIte, forall_const, implies_true, reduceCtorEq, forall_eq_or_imp, forall_eq, ne_eq]) (by simp (maxSteps := 2000000) (contextual := true) only [↓ctl, evl, val, valP, own, app, wrt, tys, Try.ntmps26, Try.results26, ↓V_convert, ↓V_bytes, stdl, cond_true, cond_false, Nat.reduceEqDiff, Nat.reduceAdd, Nat.reduceMul, Nat.reduceSub, Nat.reduceLT, Int.reduceEq, Int.reduceLT, Int.reduceLE, Int.reduceNeg, Nat.reduceLeDiff, if_true, if_false, ↓reduceIte, forall_const, implies_true, reduceCtorEq, forall_eq_or_imp, forall_eq, ne_eq]) (by simp (maxSteps := 2000000) (contextual := true) only [↓ctl, evl, val, valP, own, app, wrt, tys, Try.ntmps26, Try.results26, ↓V_convert, ↓V_bytes, stdl, cond_true, cond_false, Nat.reduceEqDiff, Nat.reduceAdd, Nat.reduceMul, Nat.reduceSub, Nat.reduceLT, Int.reduceEq, Int.reduceLT, Int.reduceLE, Int.reduceNeg, Nat.reduceLeDiff, if_true, if_false, ↓reduceIte, forall_const, implies_true, reduceCtorEq, forall_eq_or_imp, forall_eq, ne_eq]) trivial ?_
  simp (maxSteps := 2000000) only [↓ctl, evl, val, valP, own, app, wrt, tys, Try.ntmps26, Try.results26, ↓V_convert, ↓V_bytes, stdl, cond_true, cond_false, Nat.reduceEqDiff, Nat.reduceAdd, Nat.reduceMul, Nat.reduceSub, Nat.reduceLT, Int.reduceEq, Int.reduceLT, Int.reduceLE, Int.reduceNeg, Nat.reduceLeDiff, if_true, if_false, ↓reduceIte, forall_const, implies_true, reduceCtorEq, forall_eq_or_imp, forall_eq, ne_eq]
  refine ⟨by omega, ?_⟩
  refine V_loopI mixed (ι := {i : Nat // i ≤ f.quotas.length}) (fun i => ⟨[(3, true, Sx (superHead f.tick ++ quotaBs f.quotas i.1)), (15, true, .rd 2 (f.quotas.map quotaRow)), (16, true, I f.quotas.length), (17, true, I i.1)], [], 0, 33⟩) (fun i => f.quotas.length - i.1)  ⟨0, by omega⟩ ?_ ?_ ?_
  · refine weakI ?_
    simp (maxSteps := 2000000) only [↓ctl, evl, val, valP, own, app, wrt, tys, Try.ntmps26, Try.results26, ↓V_convert, ↓V_bytes, stdl, cond_true, cond_false, Nat.reduceEqDiff, Nat.reduceAdd, Nat.reduceMul, Nat.reduceSub, Nat.reduceLT, Int.reduceEq, Int.reduceLT, Int.reduceLE, Int.reduceNeg, Nat.reduceLeDiff, if_true, if_false, ↓reduceIte, forall_const, implies_true, reduceCtorEq, forall_eq_or_imp, forall_eq, ne_eq]
    simp [superHead, quotaBs]
  · trivial
  rintro ⟨i, hi⟩
  have hbl := quotaBs_len f.quotas i
  have hhl : (superHead f.tick).length ≤ 8 := by unfold superHead; simp only [List.length_append, List.length_cons, List.length_nil]; omega
  by_cases hlt : i < f.quotas.length
  · obtain ⟨m1, m2⟩ := hk.quotas _ (show f.quotas.getD i default ∈ f.quotas by rw [getD_get _ i _ hlt]; exact List.getElem_mem hlt)
    have hst := quotaBs_succ hlt
    have q1 := putNum_len (f.quotas.getD i default).inodes 1
    have q2 := putNum_len (f.quotas.getD i default).blocks 1
    simp (maxSteps := 2000000) only [↓ctl, evl, val, valP, own, app, wrt, tys, Try.ntmps26, Try.results26, ↓V_convert, ↓V_bytes, stdl, cond_true, cond_false, Nat.reduceEqDiff, Nat.reduceAdd, Nat.reduceMul, Nat.reduceSub, Nat.reduceLT, Int.reduceEq, Int.reduceLT, Int.reduceLE, Int.reduceNeg, Nat.reduceLeDiff, if_true, if_false, ↓reduceIte, forall_const, implies_true, reduceCtorEq, forall_eq_or_imp, forall_eq, ne_eq, hlt, quotaRow_e]
    refine ⟨by kernel_rfl, ?_⟩
    refine V_callF mixed (cap := []) (fun _ => c_Put1 (f.quotas.getD i default).inodes m1) (by simp (maxSteps := 2000000) (contextual := true) only [↓ctl, evl, val, valP, own, app, wrt, tys, Try.ntmps26, Try.results26, ↓V_convert, ↓V_bytes, stdl, cond_true, cond_false, Nat.reduceEqDiff, Nat.reduceAdd, Nat.reduceMul, Nat.reduceSub, Nat.reduceLT, Int.reduceEq, Int.reduceLT, Int.reduceLE, Int.reduceNeg, Nat.reduceLeDiff, if_true, if_false, ↓reduceIte, forall_const, implies_true, reduceCtorEq, forall_eq_or_imp, forall_eq, ne_eq]) (by simp (maxSteps := 2000000) (contextual := true) only [↓ctl, evl, val, valP, own, app, wrt, tys, Try.ntmps26, Try.results26, ↓V_convert, ↓V_bytes, stdl, cond_true, cond_false, Nat.reduceEqDiff, Nat.reduceAdd, Nat.reduceMul, Nat.reduceSub, Nat.reduceLT, Int.reduceEq, Int.reduceLT, Int.reduceLE, Int.reduceNeg, Nat.reduceLeDiff, if_true, if_false, ↓reduceIte, forall_const, implies_true, reduceCtorEq, forall_eq_or_imp, forall_eq, ne_eq]) (by simp (maxSteps := 2000000) (contextual := true) only [↓ctl, evl, val, valP, own, app, wrt, tys, Try.ntmps26, Try.results26, ↓V_convert, ↓V_bytes, stdl, cond_true, cond_false, Nat.reduceEqDiff, Nat.reduceAdd, Nat.reduceMul, Nat.reduceSub, Nat.reduceLT, Int.reduceEq, Int.reduceLT, Int.reduceLE, Int.reduceNeg, Nat.reduceLeDiff, if_true, if_false, ↓reduceIte, forall_const, implies_true, reduceCtorEq, forall_eq_or_imp, forall_eq, ne_eq]) trivial ?_
    simp (maxSteps := 2000000) only [↓ctl, evl, val, valP, own, app, wrt, tys, Try.ntmps26, Try.results26, ↓V_convert, ↓V_bytes, stdl, cond_true, cond_false, Nat.reduceEqDiff, Nat.reduceAdd, Nat.reduceMul, Nat.reduceSub, Nat.reduceLT, Int.reduceEq, Int.reduceLT, Int.reduceLE, Int.reduceNeg, Nat.reduceLeDiff, if_true, if_false, ↓reduceIte, forall_const, implies_true, reduceCtorEq, forall_eq_or_imp, forall_eq, ne_eq]
    refine V_callF mixed (cap := []) (fun _ => c_Put1 (f.quotas.getD i default).blocks m2) (by simp (maxSteps := 2000000) (contextual := true) only [↓ctl, evl, val, valP, own, app, wrt, tys, Try.ntmps26, Try.results26, ↓V_convert, ↓V_bytes, stdl, cond_true, cond_false, Nat.reduceEqDiff, Nat.reduceAdd, Nat.reduceMul, Nat.reduceSub, Nat.reduceLT, Int.reduceEq, Int.reduceLT, Int.reduceLE, Int.reduceNeg, Nat.reduceLeDiff, if_true, if_false, ↓reduceIte, forall_const, implies_true, reduceCtorEq, forall_eq_or_imp, forall_eq, ne_eq]) (by simp (maxSteps := 2000000) (contextual := true) only [↓ctl, evl, val, valP, own, app, wrt, tys, Try.ntmps26, Try.results26, ↓V_convert, ↓V_bytes, stdl, cond_true, cond_false, Nat.reduceEqDiff, Nat.reduceAdd, Nat.reduceMul, Nat.reduceSub, Nat.reduceLT, Int.reduceEq, Int.reduceLT, Int.reduceLE, Int.reduceNeg, Nat.reduceLeDiff, if_true, if_false, ↓reduceIte, forall_const, implies_true, reduceCtorEq, forall_eq_or_imp, forall_eq, ne_eq]) (by simp (maxSteps := 2000000) (contextual := true) only [↓ctl, evl, val, valP, own, app, wrt, tys, Try.ntmps26, Try.results26, ↓V_convert, ↓V_bytes, stdl, cond_true, cond_false, Nat.reduceEqDiff, Nat.reduceAdd, Nat.reduceMul, Nat.reduceSub, Nat.reduceLT, Int.reduceEq, Int.reduceLT, Int.reduceLE, Int.reduceNeg, Nat.reduceLeDiff, if_true, if_false, ↓reduceIte, forall_const, implies_true, reduceCtorEq, forall_eq_or_imp, forall_eq, ne_eq]) trivial ?_
    simp (maxSteps := 2000000) only [↓ctl, evl, val, valP, own, app, wrt, tys, Try.ntmps26, Try.results26, ↓V_convert, ↓V_bytes, stdl, cond_true, cond_false, Nat.reduceEqDiff, Nat.reduceAdd, Nat.reduceMul, Nat.reduceSub, Nat.reduceLT, Int.reduceEq, Int.reduceLT, Int.reduceLE, Int.reduceNeg, Nat.reduceLeDiff, if_true, if_false, ↓reduceIte, forall_const, implies_true, reduceCtorEq, forall_eq_or_imp, forall_eq, ne_eq]
    refine ⟨by omega, by simp only [List.length_append]; omega, V_backI ⟨i + 1, by omega⟩ (by show _ - (i + 1) < _; omega) (weakI ?_)⟩
    simp (maxSteps := 2000000) only [↓ctl, evl, val, valP, own, app, wrt, tys, Try.ntmps26, Try.results26, ↓V_convert, ↓V_bytes, stdl, cond_true, cond_false, Nat.reduceEqDiff, Nat.reduceAdd, Nat.reduceMul, Nat.reduceSub, Nat.reduceLT, Int.reduceEq, Int.reduceLT, Int.reduceLE, Int.reduceNeg, Nat.reduceLeDiff, if_true, if_false, ↓reduceIte, forall_const, implies_true, reduceCtorEq, forall_eq_or_imp, forall_eq, ne_eq]
    rw [wrap_id (by omega) (by omega), hst]
    unfold quotaB
    simp only [List.append_assoc]
    exact ⟨trivial, rfl⟩
  · have : i = f.quotas.length := by omega
    subst this
    simp (maxSteps := 2000000) only [↓ctl, evl, val, valP, own, app, wrt, tys, Try.ntmps26, Try.results26, ↓V_convert, ↓V_bytes, stdl, cond_true, cond_false, Nat.reduceEqDiff, Nat.reduceAdd, Nat.reduceMul, Nat.reduceSub, Nat.reduceLT, Int.reduceEq, Int.reduceLT, Int.reduceLE, Int.reduceNeg, Nat.reduceLeDiff, if_true, if_false, ↓reduceIte, forall_const, implies_true, reduceCtorEq, forall_eq_or_imp, forall_eq, ne_eq, hlt]
    refine V_callF mixed (cap := []) (fun _ => c_PadI (superHead f.tick ++ quotaBs f.quotas f.quotas.length) 32 32 rfl (by simp only [List.length_append]; omega) (by omega)) (by simp (maxSteps := 2000000) (contextual := true) only [↓ctl, evl, val, valP, own, app, wrt, tys, Try.ntmps26, Try.results26, ↓V_convert, ↓V_bytes, stdl, cond_true, cond_false, Nat.reduceEqDiff, Nat.reduceAdd, Nat.reduceMul, Nat.reduceSub, Nat.reduceLT, Int.reduceEq, Int.reduceLT, Int.reduceLE, Int.reduceNeg, Nat.reduceLeDiff, if_true, if_false, ↓reduceIte, forall_const, implies_true, reduceCtorEq, forall_eq_or_imp, forall_eq, ne_eq]) (by simp (maxSteps := 2000000) (contextual := true) only [↓ctl, evl, val, valP, own, app, wrt, tys, Try.ntmps26, Try.results26, ↓V_convert, ↓V_bytes, stdl, cond_true, cond_false, Nat.reduceEqDiff, Nat.reduceAdd, Nat.reduceMul, Nat.reduceSub, Nat.reduceLT, Int.reduceEq, Int.reduceLT, Int.reduceLE, Int.reduceNeg, Nat.reduceLeDiff, if_true, if_false, ↓reduceIte, forall_const, implies_true, reduceCtorEq, forall_eq_or_imp, forall_eq, ne_eq]) (by simp (maxSteps := 2000000) (contextual := true) only [↓ctl, evl, val, valP, own, app, wrt, tys, Try.ntmps26, Try.results26, ↓V_convert, ↓V_bytes, stdl, cond_true, cond_false, Nat.reduceEqDiff, Nat.reduceAdd, Nat.reduceMul, Nat.reduceSub, Nat.reduceLT, Int.reduceEq, Int.reduceLT, Int.reduceLE, Int.reduceNeg, Nat.reduceLeDiff, if_true, if_false, ↓reduceIte, forall_const, implies_true, reduceCtorEq, forall_eq_or_imp, forall_eq, ne_eq]) trivial ?_
    simp (maxSteps := 2000000) only [↓ctl, evl, val, valP, own, app, wrt, tys, Try.ntmps26, Try.results26, ↓V_convert, ↓V_bytes, stdl, cond_true, cond_false, Nat.reduceEqDiff, Nat.reduceAdd, Nat.reduceMul, Nat.reduceSub, Nat.reduceLT, Int.reduceEq, Int.reduceLT, Int.reduceLE, Int.reduceNeg, Nat.reduceLeDiff, if_true, if_false, ↓reduceIte, forall_const, implies_true, reduceCtorEq, forall_eq_or_imp, forall_eq, ne_eq]
    try rfl
end Go.Proofs.Ytobnbajakenbeaa


/- Contracts: slices.Repeat of one text.  -/
set_option linter.all false
set_option maxRecDepth 10000
set_option maxHeartbeats 4000000
namespace Go.Proofs.Ytobnbajakenbeaa
open Go Go.Eng

theorem reads_tup2 {f : FuncId} {xs : List AV} {x y a b : Value} {P : Program} (he : Enters P f) (h2 : ∀ (us : List Value) m, Oks m xs us → us = [x, y]) (h : ∀ w : World, Calls P f #[x, y] w fun e w' => e = .returned (.tuple #[a, b]) ∧ w' = w) : Reads P f xs (.tup [.v a, .v b]) [] 0 := by
  refine ⟨he, fun r w us hr hx => ?_⟩
  have := h2 us _ hx; subst this
  refine (h w).mono fun e w' ⟨h1, h2⟩ => ?_
  subst h2
  refine ⟨_, roM r w', h1, RowKit.Below.refl _ _, ?_, ⟨fun l l' b h => by simp [roM] at h, fun l b h => by simp [roM] at h, fun b => rfl, fun b o hb => ⟨hr b o hb, fun l h => by simp [roM] at h⟩, fun k _ => ⟨rfl, fun _ _ => rfl⟩, fun k c h => by simp [look?] at h⟩, rfl, fun l b h => by simp [roM] at h⟩
  simp only [Ok, Oks]
  exact ⟨_, rfl, _, _, rfl, rfl, _, _, rfl, rfl, rfl⟩
theorem c_Mul (n : Nat) (hn : n < 1000) : Reads Go.Proofs.Try.prog 60 [.v (.int .u64 1), .v (.int .u64 n)] (.tup [.v (.int .u64 0), .v (.int .u64 n)]) [] 0 := by
  refine reads_tup2 (x := .int .u64 1) (y := .int .u64 n) Go.Proofs.Try.call60 (fun us m hx => ?_) (fun w => ?_)
  · simp only [Oks, ok_v] at hx
    obtain ⟨u, vs, rfl, rfl, u2, vs2, rfl, rfl, rfl⟩ := hx
    rfl
  · have := Go.Proofs.Try.bits_Mul 1 n (by omega) (by omega) w
    refine this.mono fun e w' ⟨h1, h2⟩ => ⟨?_, h2⟩
    rw [h1, Nat.one_mul, Nat.div_eq_of_lt (by omega), Nat.mod_eq_of_lt (by omega)]
    rfl
def rep (x : List UInt8) (n c : Nat) : List (List UInt8) := List.replicate n x ++ List.replicate (c - n) []
theorem rep_len (x : List UInt8) {n c : Nat} (h : n ≤ c) : (rep x n c).length = c := by simp [rep]; omega
theorem rep_copy (x : List UInt8) {n c : Nat} (h : n ≤ c) : (rep x n c).take n ++ (((rep x n c).take n).take (c - n) ++ (rep x n c).drop (n + min (c - n) n)) = rep x (n + min (c - n) n) c := by
  have e1 : (rep x n c).take n = List.replicate n x := by unfold rep; rw [List.take_left' (by simp)]
  have e2 : (rep x n c).drop (n + min (c - n) n) = List.replicate (c - n - min (c - n) n) [] := by
    unfold rep; rw [List.drop_append, List.drop_of_length_le (by simp), List.nil_append, List.length_replicate, List.drop_replicate]; congr 1; omega
  rw [e1, e2, List.take_replicate, ← List.append_assoc, List.replicate_append_replicate]
  unfold rep
  congr 2; omega
theorem c_Repeat (x : List UInt8) (c : Nat) (h1 : 1 ≤ c) (hc : c ≤ 999) : Reads Go.Proofs.Try.prog 27 [.rd 1 [[.v (str x)]], I c] (.sl 0 1 0 c) [(0, .row 9 1 ((List.replicate c x).map strRow))] 1 := by
  refine reads_of_V mixed Go.Proofs.Try.call27 Go.Proofs.Try.func27 rfl (by rw [Go.Proofs.Try.ntmps27]; simp) ?_
  have n1 : ¬ (c : Int) < 0 := by omega
  have n2 : ¬ (c : Int) > 9223372036854775807 := by omega
  have w1 : IntKind.u64.wrap 1 = 1 := by decide
  have w2 : IntKind.u64.wrap (c : Int) = c := wrap_u64 (by omega) (by omega)
  have w3 : IntKind.i64.wrap (c : Int) = c := wrap_id (by omega) (by omega)
  have w0 : IntKind.u64.wrap ((1 : Nat) : Int) = 1 := by decide
  simp (maxSteps := 2000000) only [↓ctl, evl, val, valP, own, app, ↓ctlM, wrt, tys, Try.ntmps27, Try.results27, ↓V_convert, ↓V_bytes, stdl, cond_true, cond_false, Nat.reduceEqDiff, Nat.reduceAdd, Nat.reduceMul, Nat.reduceSub, Nat.reduceLT, Int.reduceEq, Int.reduceLT, Int.reduceLE, Int.reduceNeg, Nat.reduceLeDiff, if_true, if_false, ↓reduceIte, forall_const, implies_true, reduceCtorEq, forall_eq_or_imp, forall_eq, ne_eq, n1, w1, w2]
  refine V_callR mixed (cap := []) (c_Mul c (by omega)) (by simp (maxSteps := 2000000) only [↓ctl, evl, val, valP, own, app, ↓ctlM, wrt, tys, Try.ntmps27, Try.results27, ↓V_convert, ↓V_bytes, stdl, cond_true, cond_false, Nat.reduceEqDiff, Nat.reduceAdd, Nat.reduceMul, Nat.reduceSub, Nat.reduceLT, Int.reduceEq, Int.reduceLT, Int.reduceLE, Int.reduceNeg, Nat.reduceLeDiff, if_true, if_false, ↓reduceIte, forall_const, implies_true, reduceCtorEq, forall_eq_or_imp, forall_eq, ne_eq, w0, w1, w2]) (by simp (maxSteps := 2000000) only [↓ctl, evl, val, valP, own, app, ↓ctlM, wrt, tys, Try.ntmps27, Try.results27, ↓V_convert, ↓V_bytes, stdl, cond_true, cond_false, Nat.reduceEqDiff, Nat.reduceAdd, Nat.reduceMul, Nat.reduceSub, Nat.reduceLT, Int.reduceEq, Int.reduceLT, Int.reduceLE, Int.reduceNeg, Nat.reduceLeDiff, if_true, if_false, ↓reduceIte, forall_const, implies_true, reduceCtorEq, forall_eq_or_imp, forall_eq, ne_eq]) (by simp (maxSteps := 2000000) only [↓ctl, evl, val, valP, own, app, ↓ctlM, wrt, tys, Try.ntmps27, Try.results27, ↓V_convert, ↓V_bytes, stdl, cond_true, cond_false, Nat.reduceEqDiff, Nat.reduceAdd, Nat.reduceMul, Nat.reduceSub, Nat.reduceLT, Int.reduceEq, Int.reduceLT, Int.reduceLE, Int.reduceNeg, Nat.reduceLeDiff, if_true, if_false, ↓reduceIte, forall_const, implies_true, reduceCtorEq, forall_eq_or_imp, forall_eq, ne_eq]) trivial ?_
  simp (maxSteps := 2000000) only [↓ctl, evl, val, valP, own, app, ↓ctlM, wrt, tys, Try.ntmps27, Try.results27, ↓V_convert, ↓V_bytes, stdl, cond_true, cond_false, Nat.reduceEqDiff, Nat.reduceAdd, Nat.reduceMul, Nat.reduceSub, Nat.reduceLT, Int.reduceEq, Int.reduceLT, Int.reduceLE, Int.reduceNeg, Nat.reduceLeDiff, if_true, if_false, ↓reduceIte, forall_const, implies_true, reduceCtorEq, forall_eq_or_imp, forall_eq, ne_eq, n2, w3]
  refine ⟨fun h => absurd h (by decide), fun _ => ⟨⟨Nat.le_refl _, by omega⟩, ⟨fun r hr => by rw [List.eq_of_mem_replicate hr, flatRow_str, flatRow_nil]; trivial, by simp⟩, ?_⟩⟩
  refine V_loopI mixed (ι := {i : Nat // 1 ≤ i ∧ i ≤ c}) (fun i => ⟨[(7, true, .sl 0 1 0 c), (8, true, I i.1)], [(0, .row 9 1 ((rep x i.1 c).map strRow))], 1, 48⟩) (fun i => c - i.1)  ⟨1, by omega, h1⟩ ?_ ?_ ?_
  · refine weakI ?_
    simp (maxSteps := 2000000) only [↓ctl, evl, val, valP, own, app, ↓ctlM, wrt, tys, Try.ntmps27, Try.results27, ↓V_convert, ↓V_bytes, stdl, cond_true, cond_false, Nat.reduceEqDiff, Nat.reduceAdd, Nat.reduceMul, Nat.reduceSub, Nat.reduceLT, Int.reduceEq, Int.reduceLT, Int.reduceLE, Int.reduceNeg, Nat.reduceLeDiff, if_true, if_false, ↓reduceIte, forall_const, implies_true, reduceCtorEq, forall_eq_or_imp, forall_eq, ne_eq]
    have e1 : min c 1 = 1 := by omega
    have e2 : List.take c [[Cell.v (str x)]] = [[Cell.v (str x)]] := List.take_of_length_le (by simpa using h1)
    rw [e1, e2]
    refine ⟨rfl, ?_⟩
    unfold rep strRow
    simp
  · trivial
  rintro ⟨n, hn1, hnc⟩
  have hrl := rep_len x hnc
  by_cases hlt : n < c
  · have f1 : ((c - n : Nat) : Int) = c - n := by omega
    simp (maxSteps := 2000000) only [↓ctl, evl, val, valP, own, app, ↓ctlM, wrt, tys, Try.ntmps27, Try.results27, ↓V_convert, ↓V_bytes, stdl, cond_true, cond_false, Nat.reduceEqDiff, Nat.reduceAdd, Nat.reduceMul, Nat.reduceSub, Nat.reduceLT, Int.reduceEq, Int.reduceLT, Int.reduceLE, Int.reduceNeg, Nat.reduceLeDiff, if_true, if_false, ↓reduceIte, forall_const, implies_true, reduceCtorEq, forall_eq_or_imp, forall_eq, ne_eq, hlt]
    refine VM_start mixed 7 (by kernel_rfl) (by kernel_rfl) trivial ?_
    simp (maxSteps := 2000000) only [↓ctl, evl, val, valP, own, app, ↓ctlM, wrt, tys, Try.ntmps27, Try.results27, ↓V_convert, ↓V_bytes, stdl, cond_true, cond_false, Nat.reduceEqDiff, Nat.reduceAdd, Nat.reduceMul, Nat.reduceSub, Nat.reduceLT, Int.reduceEq, Int.reduceLT, Int.reduceLE, Int.reduceNeg, Nat.reduceLeDiff, if_true, if_false, ↓reduceIte, forall_const, implies_true, reduceCtorEq, forall_eq_or_imp, forall_eq, ne_eq, hlt]
    have tl : (List.take (n - 0) (List.map strRow (rep x n c))).length = n := by simp [hrl]; omega
    refine ⟨⟨hnc, Nat.le_refl _⟩, ⟨by omega, hnc⟩, ⟨by rw [tl]; omega, fun r hr => (of_eq_true (flat_strs _)) r (List.mem_of_mem_take hr), by omega⟩, V_backI ⟨n + min (c - n) n, by omega, by omega⟩ (by show c - (n + min (c - n) n) < c - n; omega) (weakI ?_)⟩
    simp (maxSteps := 2000000) only [↓ctl, evl, val, valP, own, app, ↓ctlM, wrt, tys, Try.ntmps27, Try.results27, ↓V_convert, ↓V_bytes, stdl, cond_true, cond_false, Nat.reduceEqDiff, Nat.reduceAdd, Nat.reduceMul, Nat.reduceSub, Nat.reduceLT, Int.reduceEq, Int.reduceLT, Int.reduceLE, Int.reduceNeg, Nat.reduceLeDiff, if_true, if_false, ↓reduceIte, forall_const, implies_true, reduceCtorEq, forall_eq_or_imp, forall_eq, ne_eq]
    rw [tl, wrap_id (by omega) (by omega)]
    refine ⟨by congr 3 <;> omega, ?_⟩
    rw [Nat.sub_zero, ← List.map_take, ← List.map_take, ← List.map_drop, ← List.map_append, ← List.map_append, rep_copy x hnc]
  · have : n = c := by omega
    subst this
    simp (maxSteps := 2000000) only [↓ctl, evl, val, valP, own, app, ↓ctlM, wrt, tys, Try.ntmps27, Try.results27, ↓V_convert, ↓V_bytes, stdl, cond_true, cond_false, Nat.reduceEqDiff, Nat.reduceAdd, Nat.reduceMul, Nat.reduceSub, Nat.reduceLT, Int.reduceEq, Int.reduceLT, Int.reduceLE, Int.reduceNeg, Nat.reduceLeDiff, if_true, if_false, ↓reduceIte, forall_const, implies_true, reduceCtorEq, forall_eq_or_imp, forall_eq, ne_eq, hlt]
    unfold rep
    simp
end Go.Proofs.Ytobnbajakenbeaa


/- Contracts: file systems as sectors.  -/
set_option linter.all false
set_option maxRecDepth 10000
set_option maxHeartbeats 4000000
namespace Go.Proofs.Ytobnbajakenbeaa
open Go Go.Eng

def z32 : List UInt8 := List.replicate 32 0
def packNs (l : List Inode) (i : Nat) : List (List UInt8) := ((l.take i).map fun n => cuts 32 (packInode n)).flatten
def packed (f : FS) : List (List UInt8) := (superB f :: List.replicate 69 z32) ++ packNs f.inodes f.inodes.length ++ f.data
theorem packNs_succ {l : List Inode} {i : Nat} (h : i < l.length) : packNs l (i + 1) = packNs l i ++ cuts 32 (packInode (l.getD i default)) := by
  unfold packNs; rw [List.take_succ, List.map_append, List.flatten_append, getD_get l i default h, List.getElem?_eq_getElem h]; simp
theorem cuts_len (n : Nat) : ∀ (k : Nat) (s : List UInt8), s.length ≤ k → (cuts n s).length ≤ s.length
  | 0, s, h => by
    have : s = [] := List.eq_nil_of_length_eq_zero (by omega)
    subst this; rw [cuts_nil]; exact Nat.le_refl _
  | k + 1, s, h => by
    by_cases hs : s.length = 0 ∨ n = 0
    · unfold cuts; rw [dif_pos hs]; simp
    · rw [cuts_step (by omega) (by omega), List.length_cons]
      have := cuts_len n k (s.drop n) (by rw [List.length_drop]; omega)
      rw [List.length_drop] at this
      omega
theorem packHead_len (n : Inode) : (packHead n).length ≤ 13 := by
  have := putNum_len n.kind 1
  have := putNum_len n.mode 2
  have := putNum_len n.uid 1
  have := putNum_len n.gid 1
  have := putNum_len n.links 2
  have := putNum_len n.size 2
  have := putNum_len n.tick 4
  unfold packHead; simp only [List.length_append]; omega
theorem packInode_len (n : Inode) : (packInode n).length ≤ 200 := by
  have h1 := packHead_len n
  have h2 := packBlks_len n.blocks 8
  have h3 := packAcl_len n.acl
  have h4 := packAcl_len n.dflt
  unfold packInode padTo
  split
  · simp only [List.length_append, List.length_replicate]; omega
  · simp
theorem packNs_len (l : List Inode) : ∀ i, (packNs l i).length ≤ 200 * i
  | 0 => by simp [packNs]
  | i + 1 => by
    have := packNs_len l i
    by_cases h : i < l.length
    · rw [packNs_succ h, List.length_append]
      have := cuts_len 32 _ _ (Nat.le_refl (packInode (l.getD i default)).length)
      have := packInode_len (l.getD i default)
      omega
    · have : packNs l (i + 1) = packNs l i := by unfold packNs; rw [List.take_of_length_le (by omega), List.take_of_length_le (by omega)]
      rw [this]; omega
theorem take_all_map {α : Type} (g : α → List Cell) (a : List α) (b : List (List Cell)) {n : Nat} (h : n = a.length) : List.take n (a.map g) ++ b = a.map g ++ b := by
  rw [h, List.take_of_length_le (by simp)]
def frontS (f : FS) (i : Nat) : List (List UInt8) := superB f :: List.replicate i z32
def midS (f : FS) (i : Nat) : List (List UInt8) := frontS f 69 ++ packNs f.inodes i
theorem midS_len (f : FS) (i : Nat) : (midS f i).length ≤ 70 + 200 * i := by
  have := packNs_len f.inodes i
  unfold midS frontS; simp only [List.length_append, List.length_cons, List.length_replicate]; omega
theorem frontS_succ (f : FS) (i : Nat) : frontS f (i + 1) = frontS f i ++ [z32] := by unfold frontS; rw [List.replicate_succ', List.cons_append]
theorem midS_succ {f : FS} {i : Nat} (h : i < f.inodes.length) : midS f (i + 1) = midS f i ++ cuts 32 (packInode (f.inodes.getD i default)) := by unfold midS; rw [packNs_succ h, List.append_assoc]
theorem packed_mid (f : FS) : packed f = midS f f.inodes.length ++ f.data := rfl
theorem take_map (l : List (List UInt8)) : List.take l.length (l.map strRow) = l.map strRow := List.take_of_length_le (by simp)
theorem d_Cut32 (s : List UInt8) (hs : s.length ≤ 1048576) : Reads Go.Proofs.Try.prog 51 [Sx s, I 32] (.sl 0 1 0 (cuts 32 s).length) [(0, .row 9 1 ((cuts 32 s).map strRow))] 1 := d_CutAll s 32 hs (by omega)
theorem c_Cut32 (s : List UInt8) (hs : s.length ≤ 1048576) : Reads Go.Proofs.Try.prog 29 [Sx s, I 32] (.sl 0 1 0 (cuts 32 s).length) [(0, .row 9 1 ((cuts 32 s).map strRow))] 1 := c_CutAll s 32 hs (by omega)
theorem d_Pack0 : Gives Go.Proofs.Try.prog 50 [.v (str []), I 32] (str z32) := d_PadTo [] 32 (by simp) (by omega)
theorem d_l18Pack (f : FS) (hk : f.ok) (hi : f.ints) (hq : f.quotas.length = 4) : Reads Go.Proofs.Try.prog 22 [fsAV f] (.sl 1 1 0 (packed f).length) [(1, .row 9 1 ((packed f).map strRow))] 2 := by
  refine reads_of_V mixed Go.Proofs.Try.call22 Go.Proofs.Try.func22 rfl (by rw [Go.Proofs.Try.ntmps22]; simp) ?_
  simp (maxSteps := 2000000) only [↓ctl, evl, val, valP, own, app, wrt, tys, Try.ntmps22, Try.results22, ↓V_convert, ↓V_bytes, stdl, cond_true, cond_false, Nat.reduceEqDiff, Nat.reduceAdd, Nat.reduceMul, Nat.reduceSub, Nat.reduceLT, Int.reduceEq, Int.reduceLT, Int.reduceLE, Int.reduceNeg, Nat.reduceLeDiff, if_true, if_false, ↓reduceIte, forall_const, implies_true, reduceCtorEq, forall_eq_or_imp, forall_eq, ne_eq, fsAV]
  refine V_callF mixed (cap := []) (fun _ => d_Super f hi hq) (by simp (maxSteps := 2000000) (contextual := true) only [↓ctl, evl, val, valP, own, app, wrt, tys, Try.ntmps22, Try.results22, ↓V_convert, ↓V_bytes, stdl, cond_true, cond_false, Nat.reduceEqDiff, Nat.reduceAdd, Nat.reduceMul, Nat.reduceSub, Nat.reduceLT, Int.reduceEq, Int.reduceLT, Int.reduceLE, Int.reduceNeg, Nat.reduceLeDiff, if_true, if_false, ↓reduceIte, forall_const, implies_true, reduceCtorEq, forall_eq_or_imp, forall_eq, ne_eq, fsAV]) (by simp (maxSteps := 2000000) (contextual := true) only [↓ctl, evl, val, valP, own, app, wrt, tys, Try.ntmps22, Try.results22, ↓V_convert, ↓V_bytes, stdl, cond_true, cond_false, Nat.reduceEqDiff, Nat.reduceAdd, Nat.reduceMul, Nat.reduceSub, Nat.reduceLT, Int.reduceEq, Int.reduceLT, Int.reduceLE, Int.reduceNeg, Nat.reduceLeDiff, if_true, if_false, ↓reduceIte, forall_const, implies_true, reduceCtorEq, forall_eq_or_imp, forall_eq, ne_eq]) (by simp (maxSteps := 2000000) (contextual := true) only [↓ctl, evl, val, valP, own, app, wrt, tys, Try.ntmps22, Try.results22, ↓V_convert, ↓V_bytes, stdl, cond_true, cond_false, Nat.reduceEqDiff, Nat.reduceAdd, Nat.reduceMul, Nat.reduceSub, Nat.reduceLT, Int.reduceEq, Int.reduceLT, Int.reduceLE, Int.reduceNeg, Nat.reduceLeDiff, if_true, if_false, ↓reduceIte, forall_const, implies_true, reduceCtorEq, forall_eq_or_imp, forall_eq, ne_eq]) trivial ?_
  simp (maxSteps := 2000000) only [↓ctl, evl, val, valP, own, app, wrt, tys, Try.ntmps22, Try.results22, ↓V_convert, ↓V_bytes, stdl, cond_true, cond_false, Nat.reduceEqDiff, Nat.reduceAdd, Nat.reduceMul, Nat.reduceSub, Nat.reduceLT, Int.reduceEq, Int.reduceLT, Int.reduceLE, Int.reduceNeg, Nat.reduceLeDiff, if_true, if_false, ↓reduceIte, forall_const, implies_true, reduceCtorEq, forall_eq_or_imp, forall_eq, ne_eq]
  refine V_loopI mixed (ι := {i : Nat // i ≤ 69}) (fun i => ⟨[(1, true, .ptr 0 0 0 0), (3, true, .sl 1 1 0 (frontS f i.1).length)], [(1, .row 9 1 ((frontS f i.1).map strRow)), (0, .box 32 [I f.tick, .rd 2 (f.quotas.map quotaRow), .rd 10 (f.inodes.map inodeRow), .rd 1 (f.data.map strRow)])], 2, 33⟩) (fun i => 69 - i.1)  ⟨0, by omega⟩ ?_ ?_ ?_
  · refine weakI ?_
    simp (maxSteps := 2000000) only [↓ctl, evl, val, valP, own, app, wrt, tys, Try.ntmps22, Try.results22, ↓V_convert, ↓V_bytes, stdl, cond_true, cond_false, Nat.reduceEqDiff, Nat.reduceAdd, Nat.reduceMul, Nat.reduceSub, Nat.reduceLT, Int.reduceEq, Int.reduceLT, Int.reduceLE, Int.reduceNeg, Nat.reduceLeDiff, if_true, if_false, ↓reduceIte, forall_const, implies_true, reduceCtorEq, forall_eq_or_imp, forall_eq, ne_eq]
    try exact ⟨rfl, rfl⟩
  · trivial
  · rintro ⟨i, hi69⟩
    have hfl : (frontS f i).length = i + 1 := by simp [frontS]
    by_cases hlt : i < 69
    · have hlt' : ((i + 1 : Nat) : Int) < 70 := by omega
      simp (maxSteps := 2000000) only [↓ctl, evl, val, valP, own, app, wrt, tys, Try.ntmps22, Try.results22, ↓V_convert, ↓V_bytes, stdl, cond_true, cond_false, Nat.reduceEqDiff, Nat.reduceAdd, Nat.reduceMul, Nat.reduceSub, Nat.reduceLT, Int.reduceEq, Int.reduceLT, Int.reduceLE, Int.reduceNeg, Nat.reduceLeDiff, if_true, if_false, ↓reduceIte, forall_const, implies_true, reduceCtorEq, forall_eq_or_imp, forall_eq, ne_eq, hfl, hlt']
      refine V_callF mixed (cap := []) (fun _ => d_Pack0) (by simp (maxSteps := 2000000) (contextual := true) only [↓ctl, evl, val, valP, own, app, wrt, tys, Try.ntmps22, Try.results22, ↓V_convert, ↓V_bytes, stdl, cond_true, cond_false, Nat.reduceEqDiff, Nat.reduceAdd, Nat.reduceMul, Nat.reduceSub, Nat.reduceLT, Int.reduceEq, Int.reduceLT, Int.reduceLE, Int.reduceNeg, Nat.reduceLeDiff, if_true, if_false, ↓reduceIte, forall_const, implies_true, reduceCtorEq, forall_eq_or_imp, forall_eq, ne_eq]) (by simp (maxSteps := 2000000) (contextual := true) only [↓ctl, evl, val, valP, own, app, wrt, tys, Try.ntmps22, Try.results22, ↓V_convert, ↓V_bytes, stdl, cond_true, cond_false, Nat.reduceEqDiff, Nat.reduceAdd, Nat.reduceMul, Nat.reduceSub, Nat.reduceLT, Int.reduceEq, Int.reduceLT, Int.reduceLE, Int.reduceNeg, Nat.reduceLeDiff, if_true, if_false, ↓reduceIte, forall_const, implies_true, reduceCtorEq, forall_eq_or_imp, forall_eq, ne_eq]) (by simp (maxSteps := 2000000) (contextual := true) only [↓ctl, evl, val, valP, own, app, wrt, tys, Try.ntmps22, Try.results22, ↓V_convert, ↓V_bytes, stdl, cond_true, cond_false, Nat.reduceEqDiff, Nat.reduceAdd, Nat.reduceMul, Nat.reduceSub, Nat.reduceLT, Int.reduceEq, Int.reduceLT, Int.reduceLE, Int.reduceNeg, Nat.reduceLeDiff, if_true, if_false, ↓reduceIte, forall_const, implies_true, reduceCtorEq, forall_eq_or_imp, forall_eq, ne_eq]) trivial ?_
      simp (maxSteps := 2000000) only [↓ctl, evl, val, valP, own, app, wrt, tys, Try.ntmps22, Try.results22, ↓V_convert, ↓V_bytes, stdl, cond_true, cond_false, Nat.reduceEqDiff, Nat.reduceAdd, Nat.reduceMul, Nat.reduceSub, Nat.reduceLT, Int.reduceEq, Int.reduceLT, Int.reduceLE, Int.reduceNeg, Nat.reduceLeDiff, if_true, if_false, ↓reduceIte, forall_const, implies_true, reduceCtorEq, forall_eq_or_imp, forall_eq, ne_eq, hfl]
      refine ⟨⟨by omega, Nat.le_refl _⟩, V_backI ⟨i + 1, by omega⟩ (by show 69 - (i + 1) < _; omega) (weakI ?_)⟩
      simp (maxSteps := 2000000) only [↓ctl, evl, val, valP, own, app, wrt, tys, Try.ntmps22, Try.results22, ↓V_convert, ↓V_bytes, stdl, cond_true, cond_false, Nat.reduceEqDiff, Nat.reduceAdd, Nat.reduceMul, Nat.reduceSub, Nat.reduceLT, Int.reduceEq, Int.reduceLT, Int.reduceLE, Int.reduceNeg, Nat.reduceLeDiff, if_true, if_false, ↓reduceIte, forall_const, implies_true, reduceCtorEq, forall_eq_or_imp, forall_eq, ne_eq]
      have hfs := frontS_succ f i
      have hfl2 : (frontS f (i + 1)).length = i + 1 + 1 := by simp [frontS]
      refine ⟨by rw [hfl2], ?_⟩
      rw [hfs, List.map_append, ← hfl, take_map]
      rfl
    · have : i = 69 := by omega
      subst this
      have hlt' : ¬ (((69 + 1 : Nat) : Int) < 70) := by omega
      simp (maxSteps := 2000000) only [↓ctl, evl, val, valP, own, app, wrt, tys, Try.ntmps22, Try.results22, ↓V_convert, ↓V_bytes, stdl, cond_true, cond_false, Nat.reduceEqDiff, Nat.reduceAdd, Nat.reduceMul, Nat.reduceSub, Nat.reduceLT, Int.reduceEq, Int.reduceLT, Int.reduceLE, Int.reduceNeg, Nat.reduceLeDiff, if_true, if_false, ↓reduceIte, forall_const, implies_true, reduceCtorEq, forall_eq_or_imp, forall_eq, ne_eq, hfl, hlt']
      refine V_loopI mixed (ι := {i : Nat // i ≤ f.inodes.length}) (fun i => ⟨[(1, true, .ptr 0 0 0 0), (3, true, .sl 1 1 0 (midS f i.1).length), (17, true, .rd 10 (f.inodes.map inodeRow)), (18, true, I f.inodes.length), (19, true, I i.1)], [(1, .row 9 1 ((midS f i.1).map strRow)), (0, .box 32 [I f.tick, .rd 2 (f.quotas.map quotaRow), .rd 10 (f.inodes.map inodeRow), .rd 1 (f.data.map strRow)])], 2, 33⟩) (fun i => f.inodes.length - i.1)  ⟨0, by omega⟩ ?_ ?_ ?_
      · refine weakI ?_
        simp (maxSteps := 2000000) only [↓ctl, evl, val, valP, own, app, wrt, tys, Try.ntmps22, Try.results22, ↓V_convert, ↓V_bytes, stdl, cond_true, cond_false, Nat.reduceEqDiff, Nat.reduceAdd, Nat.reduceMul, Nat.reduceSub, Nat.reduceLT, Int.reduceEq, Int.reduceLT, Int.reduceLE, Int.reduceNeg, Nat.reduceLeDiff, if_true, if_false, ↓reduceIte, forall_const, implies_true, reduceCtorEq, forall_eq_or_imp, forall_eq, ne_eq]
        simp [midS, packNs, frontS]
      · trivial
      rintro ⟨i, hi⟩
      have hml := midS_len f i
      have hin := hk.inodes
      by_cases hlt : i < f.inodes.length
      · obtain ⟨m1, m2⟩ := hk.nodes _ (show f.inodes.getD i default ∈ f.inodes by rw [getD_get _ i _ hlt]; exact List.getElem_mem hlt)
        simp (maxSteps := 2000000) only [↓ctl, evl, val, valP, own, app, wrt, tys, Try.ntmps22, Try.results22, ↓V_convert, ↓V_bytes, stdl, cond_true, cond_false, Nat.reduceEqDiff, Nat.reduceAdd, Nat.reduceMul, Nat.reduceSub, Nat.reduceLT, Int.reduceEq, Int.reduceLT, Int.reduceLE, Int.reduceNeg, Nat.reduceLeDiff, if_true, if_false, ↓reduceIte, forall_const, implies_true, reduceCtorEq, forall_eq_or_imp, forall_eq, ne_eq, hlt, inodeRow_e, ints_map, acls_map]
        refine V_callF mixed (cap := []) (fun _ => d_PackInode (f.inodes.getD i default) m1.fits m2) (by simp (maxSteps := 2000000) only [↓ctl, evl, val, valP, own, app, wrt, tys, Try.ntmps22, Try.results22, ↓V_convert, ↓V_bytes, stdl, cond_true, cond_false, Nat.reduceEqDiff, Nat.reduceAdd, Nat.reduceMul, Nat.reduceSub, Nat.reduceLT, Int.reduceEq, Int.reduceLT, Int.reduceLE, Int.reduceNeg, Nat.reduceLeDiff, if_true, if_false, ↓reduceIte, forall_const, implies_true, reduceCtorEq, forall_eq_or_imp, forall_eq, ne_eq, inodeAV, ints_map, acls_map]) (by simp (maxSteps := 2000000) only [↓ctl, evl, val, valP, own, app, wrt, tys, Try.ntmps22, Try.results22, ↓V_convert, ↓V_bytes, stdl, cond_true, cond_false, Nat.reduceEqDiff, Nat.reduceAdd, Nat.reduceMul, Nat.reduceSub, Nat.reduceLT, Int.reduceEq, Int.reduceLT, Int.reduceLE, Int.reduceNeg, Nat.reduceLeDiff, if_true, if_false, ↓reduceIte, forall_const, implies_true, reduceCtorEq, forall_eq_or_imp, forall_eq, ne_eq]) (by simp (maxSteps := 2000000) only [↓ctl, evl, val, valP, own, app, wrt, tys, Try.ntmps22, Try.results22, ↓V_convert, ↓V_bytes, stdl, cond_true, cond_false, Nat.reduceEqDiff, Nat.reduceAdd, Nat.reduceMul, Nat.reduceSub, Nat.reduceLT, Int.reduceEq, Int.reduceLT, Int.reduceLE, Int.reduceNeg, Nat.reduceLeDiff, if_true, if_false, ↓reduceIte, forall_const, implies_true, reduceCtorEq, forall_eq_or_imp, forall_eq, ne_eq]) trivial ?_
        simp (maxSteps := 2000000) only [↓ctl, evl, val, valP, own, app, wrt, tys, Try.ntmps22, Try.results22, ↓V_convert, ↓V_bytes, stdl, cond_true, cond_false, Nat.reduceEqDiff, Nat.reduceAdd, Nat.reduceMul, Nat.reduceSub, Nat.reduceLT, Int.reduceEq, Int.reduceLT, Int.reduceLE, Int.reduceNeg, Nat.reduceLeDiff, if_true, if_false, ↓reduceIte, forall_const, implies_true, reduceCtorEq, forall_eq_or_imp, forall_eq, ne_eq]
        have hpl := packInode_len (f.inodes.getD i default)
        have hcl := cuts_len 32 _ _ (Nat.le_refl (packInode (f.inodes.getD i default)).length)
        refine V_callR mixed (cap := []) (d_Cut32 (packInode (f.inodes.getD i default)) (by omega)) (by simp (maxSteps := 2000000) only [↓ctl, evl, val, valP, own, app, wrt, tys, Try.ntmps22, Try.results22, ↓V_convert, ↓V_bytes, stdl, cond_true, cond_false, Nat.reduceEqDiff, Nat.reduceAdd, Nat.reduceMul, Nat.reduceSub, Nat.reduceLT, Int.reduceEq, Int.reduceLT, Int.reduceLE, Int.reduceNeg, Nat.reduceLeDiff, if_true, if_false, ↓reduceIte, forall_const, implies_true, reduceCtorEq, forall_eq_or_imp, forall_eq, ne_eq]) (by simp (maxSteps := 2000000) only [↓ctl, evl, val, valP, own, app, wrt, tys, Try.ntmps22, Try.results22, ↓V_convert, ↓V_bytes, stdl, cond_true, cond_false, Nat.reduceEqDiff, Nat.reduceAdd, Nat.reduceMul, Nat.reduceSub, Nat.reduceLT, Int.reduceEq, Int.reduceLT, Int.reduceLE, Int.reduceNeg, Nat.reduceLeDiff, if_true, if_false, ↓reduceIte, forall_const, implies_true, reduceCtorEq, forall_eq_or_imp, forall_eq, ne_eq]) (by simp (maxSteps := 2000000) only [↓ctl, evl, val, valP, own, app, wrt, tys, Try.ntmps22, Try.results22, ↓V_convert, ↓V_bytes, stdl, cond_true, cond_false, Nat.reduceEqDiff, Nat.reduceAdd, Nat.reduceMul, Nat.reduceSub, Nat.reduceLT, Int.reduceEq, Int.reduceLT, Int.reduceLE, Int.reduceNeg, Nat.reduceLeDiff, if_true, if_false, ↓reduceIte, forall_const, implies_true, reduceCtorEq, forall_eq_or_imp, forall_eq, ne_eq]) trivial ?_
        simp (maxSteps := 2000000) only [↓ctl, evl, val, valP, own, app, wrt, tys, Try.ntmps22, Try.results22, ↓V_convert, ↓V_bytes, stdl, cond_true, cond_false, Nat.reduceEqDiff, Nat.reduceAdd, Nat.reduceMul, Nat.reduceSub, Nat.reduceLT, Int.reduceEq, Int.reduceLT, Int.reduceLE, Int.reduceNeg, Nat.reduceLeDiff, if_true, if_false, ↓reduceIte, forall_const, implies_true, reduceCtorEq, forall_eq_or_imp, forall_eq, ne_eq]
        rw [take_map, take_map]
        refine ⟨⟨⟨by simp, of_eq_true (flat_strs _), by omega⟩, Nat.le_refl _⟩, V_backI ⟨i + 1, by omega⟩ (by show _ - (i + 1) < _; omega) (weakI ?_)⟩
        simp (maxSteps := 2000000) only [↓ctl, evl, val, valP, own, app, wrt, tys, Try.ntmps22, Try.results22, ↓V_convert, ↓V_bytes, stdl, cond_true, cond_false, Nat.reduceEqDiff, Nat.reduceAdd, Nat.reduceMul, Nat.reduceSub, Nat.reduceLT, Int.reduceEq, Int.reduceLT, Int.reduceLE, Int.reduceNeg, Nat.reduceLeDiff, if_true, if_false, ↓reduceIte, forall_const, implies_true, reduceCtorEq, forall_eq_or_imp, forall_eq, ne_eq]
        rw [wrap_id (by omega) (by omega), midS_succ hlt, List.length_append, List.map_append]
        exact ⟨⟨rfl, rfl⟩, rfl⟩
      · have : i = f.inodes.length := by omega
        subst this
        have hdl := hk.data
        simp (maxSteps := 2000000) only [↓ctl, evl, val, valP, own, app, wrt, tys, Try.ntmps22, Try.results22, ↓V_convert, ↓V_bytes, stdl, cond_true, cond_false, Nat.reduceEqDiff, Nat.reduceAdd, Nat.reduceMul, Nat.reduceSub, Nat.reduceLT, Int.reduceEq, Int.reduceLT, Int.reduceLE, Int.reduceNeg, Nat.reduceLeDiff, if_true, if_false, ↓reduceIte, forall_const, implies_true, reduceCtorEq, forall_eq_or_imp, forall_eq, ne_eq, hlt]
        rw [take_map, packed_mid, List.length_append, List.map_append]
        refine ⟨⟨by omega, Nat.le_refl _⟩, rfl, rfl⟩
end Go.Proofs.Ytobnbajakenbeaa

