/- FnExactFormatFS: for every file system as argument the law hands back true, and the argument reads behind the call as it read before. No condition. -/
import Derived.JoinedCond
import Derived.ProofKit
import Derived.Test.YtobnbajakenbeaaGreatRows
import Derived.Test.YtobnbajakenbeaaGreatTxt3
set_option linter.all false
set_option linter.defProp false
/- Contracts: valid file systems: the program's test.  -/
set_option linter.all false
set_option maxRecDepth 10000
set_option maxHeartbeats 4000000
namespace Go.Proofs.YtobnbajakenbeaaGreat
open Go Go.Eng

def finI (f : FS) (u : List Bool) : Bool := freeOk u f.data && (f.inodes.getD 0 default).kind == 2
def restI (f : FS) : List Bool → List Inode → Bool
  | u, [] => finI f u
  | u, n :: r => isInode n && (match useBs n.uid u n.blocks with | none => false | some v => tailOk f.data n && restI f v r)
theorem restI_eq (f : FS) : ∀ (l : List Inode) (u : List Bool), restI f u l = (l.all isInode && (match useNs u l with | none => false | some v => l.all (tailOk f.data) && finI f v))
  | [], u => by simp [restI, useNs]
  | n :: l, u => by
    simp only [restI, useNs, List.all_cons]
    cases useBs n.uid u n.blocks with
    | none => simp
    | some v =>
      simp only [Option.bind_some]
      rw [restI_eq f l v]
      cases useNs v l with
      | none => simp
      | some x =>
        cases isInode n <;> cases tailOk f.data n <;> cases l.all isInode <;> simp
theorem restI_step {f : FS} {u : List Bool} {i : Nat} (h : i < f.inodes.length) : restI f u (f.inodes.drop i) = (isInode (f.inodes.getD i default) && (match useBs (f.inodes.getD i default).uid u (f.inodes.getD i default).blocks with | none => false | some v => tailOk f.data (f.inodes.getD i default) && restI f v (f.inodes.drop (i + 1)))) := by
  rw [drop_getD default h]; rfl
theorem isFS_restI {f : FS} (h1 : headFS f = true) (h2 : f.quotas.all qOk = true) (h3 : f.data.all (fun s => decide ((s.length : Int) = 32)) = true) : isFS f = restI f none0 f.inodes := by
  rw [restI_eq]
  unfold isFS finI
  rw [h1, h2]
  cases useNs none0 f.inodes with
  | none => simp
  | some u =>
    simp only [h3, Bool.true_and]
    cases f.inodes.all isInode <;> cases freeOk u f.data <;> cases f.inodes.all (tailOk f.data) <;> simp
theorem c_IsFS (f : FS) (hk : f.ok) : Gives Go.Proofs.Tryz.prog 59 [fsAV f] (.bool (isFS f)) := by
  refine gives_of_V mixed Go.Proofs.Tryz.call59 Go.Proofs.Tryz.func59 rfl (by rw [Go.Proofs.Tryz.ntmps59]; simp) ?_
  simp (maxSteps := 2000000) only [↓ctl, evl, val, valP, own, app, wrt, tys, Tryz.ntmps59, Tryz.results59, ↓V_convert, ↓V_bytes, stdl, cond_true, cond_false, Nat.reduceEqDiff, Nat.reduceAdd, Nat.reduceMul, Nat.reduceSub, Nat.reduceLT, Int.reduceEq, Int.reduceLT, Int.reduceLE, Int.reduceNeg, Nat.reduceLeDiff, if_true, if_false, ↓reduceIte, forall_const, implies_true, reduceCtorEq, forall_eq_or_imp, forall_eq, ne_eq, fsAV]
  refine ⟨fun h => ?_, fun h => ?_⟩
  · have : headFS f = false := by unfold headFS inR; grind
    simp only [isFS, this, Bool.false_and]
  have hH : headFS f = true := by unfold headFS inR; grind
  obtain ⟨l4, l20, l56⟩ := headFS_len hH
  refine V_loopI mixed (ι := {i : Nat // i ≤ f.quotas.length ∧ f.quotas.all qOk = (f.quotas.drop i).all qOk}) (fun i => ⟨[(1, true, .ptr 0 0 0 0), (42, true, .rd 2 (f.quotas.map quotaRow)), (43, true, I f.quotas.length), (44, true, I i.1)], [(0, .box 35 [I f.tick, .rd 2 (f.quotas.map quotaRow), .rd 10 (f.inodes.map inodeRow), .rd 1 (f.data.map strRow)])], 1, 154⟩) (fun i => f.quotas.length - i.1)  ⟨0, by simp⟩ ?_ ?_ ?_
  · refine weakI ?_
    simp (maxSteps := 2000000) only [↓ctl, evl, val, valP, own, app, wrt, tys, Tryz.ntmps59, Tryz.results59, ↓V_convert, ↓V_bytes, stdl, cond_true, cond_false, Nat.reduceEqDiff, Nat.reduceAdd, Nat.reduceMul, Nat.reduceSub, Nat.reduceLT, Int.reduceEq, Int.reduceLT, Int.reduceLE, Int.reduceNeg, Nat.reduceLeDiff, if_true, if_false, ↓reduceIte, forall_const, implies_true, reduceCtorEq, forall_eq_or_imp, forall_eq, ne_eq]
    try rfl
  · trivial
  rintro ⟨i, hi, hx⟩
  by_cases hlt : i < f.quotas.length
  · have hst := all_drop (p := qOk) default hlt
    simp (maxSteps := 2000000) only [↓ctl, evl, val, valP, own, app, wrt, tys, Tryz.ntmps59, Tryz.results59, ↓V_convert, ↓V_bytes, stdl, cond_true, cond_false, Nat.reduceEqDiff, Nat.reduceAdd, Nat.reduceMul, Nat.reduceSub, Nat.reduceLT, Int.reduceEq, Int.reduceLT, Int.reduceLE, Int.reduceNeg, Nat.reduceLeDiff, if_true, if_false, ↓reduceIte, forall_const, implies_true, reduceCtorEq, forall_eq_or_imp, forall_eq, ne_eq, hlt, quotaRow_e]
    refine ⟨fun h => ?_, fun h => V_backI ⟨i + 1, by omega, ?_⟩ (by show _ - (i + 1) < _; omega) (weakI ?_)⟩
    · have : f.quotas.all qOk = false := by rw [hx, hst]; unfold qOk inR; grind
      simp only [isFS, this, Bool.and_false, Bool.false_and]
    · rw [hx, hst]; unfold qOk inR; grind
    · simp (maxSteps := 2000000) only [↓ctl, evl, val, valP, own, app, wrt, tys, Tryz.ntmps59, Tryz.results59, ↓V_convert, ↓V_bytes, stdl, cond_true, cond_false, Nat.reduceEqDiff, Nat.reduceAdd, Nat.reduceMul, Nat.reduceSub, Nat.reduceLT, Int.reduceEq, Int.reduceLT, Int.reduceLE, Int.reduceNeg, Nat.reduceLeDiff, if_true, if_false, ↓reduceIte, forall_const, implies_true, reduceCtorEq, forall_eq_or_imp, forall_eq, ne_eq]
      rw [wrap_id (by omega) (by omega)]
      rfl
  have hQ : f.quotas.all qOk = true := by rw [hx, drop_end _ _ hlt]; rfl
  simp (maxSteps := 2000000) only [↓ctl, evl, val, valP, own, app, wrt, tys, Tryz.ntmps59, Tryz.results59, ↓V_convert, ↓V_bytes, stdl, cond_true, cond_false, Nat.reduceEqDiff, Nat.reduceAdd, Nat.reduceMul, Nat.reduceSub, Nat.reduceLT, Int.reduceEq, Int.reduceLT, Int.reduceLE, Int.reduceNeg, Nat.reduceLeDiff, if_true, if_false, ↓reduceIte, forall_const, implies_true, reduceCtorEq, forall_eq_or_imp, forall_eq, ne_eq, hlt]
  clear hx hlt hi
  refine V_loopI mixed (ι := {i : Nat // i ≤ f.data.length ∧ f.data.all (fun s => decide ((s.length : Int) = 32)) = (f.data.drop i).all (fun s => decide ((s.length : Int) = 32))}) (fun i => ⟨[(1, true, .ptr 0 0 0 0), (68, true, .rd 1 (f.data.map strRow)), (69, true, I f.data.length), (70, true, I i.1)], [(0, .box 35 [I f.tick, .rd 2 (f.quotas.map quotaRow), .rd 10 (f.inodes.map inodeRow), .rd 1 (f.data.map strRow)])], 1, 154⟩) (fun i => f.data.length - i.1)  ⟨0, by simp⟩ ?_ ?_ ?_
  · refine weakI ?_
    simp (maxSteps := 2000000) only [↓ctl, evl, val, valP, own, app, wrt, tys, Tryz.ntmps59, Tryz.results59, ↓V_convert, ↓V_bytes, stdl, cond_true, cond_false, Nat.reduceEqDiff, Nat.reduceAdd, Nat.reduceMul, Nat.reduceSub, Nat.reduceLT, Int.reduceEq, Int.reduceLT, Int.reduceLE, Int.reduceNeg, Nat.reduceLeDiff, if_true, if_false, ↓reduceIte, forall_const, implies_true, reduceCtorEq, forall_eq_or_imp, forall_eq, ne_eq]
    try rfl
  · trivial
  rintro ⟨i, hi, hx⟩
  by_cases hlt : i < f.data.length
  · have hst := all_drop (p := fun s : List UInt8 => decide ((s.length : Int) = 32)) default hlt
    simp (maxSteps := 2000000) only [↓ctl, evl, val, valP, own, app, wrt, tys, Tryz.ntmps59, Tryz.results59, ↓V_convert, ↓V_bytes, stdl, cond_true, cond_false, Nat.reduceEqDiff, Nat.reduceAdd, Nat.reduceMul, Nat.reduceSub, Nat.reduceLT, Int.reduceEq, Int.reduceLT, Int.reduceLE, Int.reduceNeg, Nat.reduceLeDiff, if_true, if_false, ↓reduceIte, forall_const, implies_true, reduceCtorEq, forall_eq_or_imp, forall_eq, ne_eq, hlt]
    refine ⟨fun h => ?_, fun h => V_backI ⟨i + 1, by omega, ?_⟩ (by show _ - (i + 1) < _; omega) (weakI ?_)⟩
    · have : f.data.all (fun s => decide ((s.length : Int) = 32)) = false := by rw [hx, hst, decide_eq_false h]; rfl
      unfold isFS
      cases useNs none0 f.inodes with
      | none => simp
      | some u => simp only [this, Bool.false_and, Bool.and_false]
    · rw [hx, hst, decide_eq_true h]; rfl
    · simp (maxSteps := 2000000) only [↓ctl, evl, val, valP, own, app, wrt, tys, Tryz.ntmps59, Tryz.results59, ↓V_convert, ↓V_bytes, stdl, cond_true, cond_false, Nat.reduceEqDiff, Nat.reduceAdd, Nat.reduceMul, Nat.reduceSub, Nat.reduceLT, Int.reduceEq, Int.reduceLT, Int.reduceLE, Int.reduceNeg, Nat.reduceLeDiff, if_true, if_false, ↓reduceIte, forall_const, implies_true, reduceCtorEq, forall_eq_or_imp, forall_eq, ne_eq]
      rw [wrap_id (by omega) (by omega)]
      rfl
  have hD : f.data.all (fun s => decide ((s.length : Int) = 32)) = true := by rw [hx, drop_end _ _ hlt]; rfl
  have hlen : ∀ s ∈ f.data, s.length = 32 := fun s hs => by
    have := List.all_eq_true.1 hD s hs
    simp only [decide_eq_true_eq] at this; omega
  have hIs := isFS_restI hH hQ hD
  simp (maxSteps := 2000000) only [↓ctl, evl, val, valP, own, app, wrt, tys, Tryz.ntmps59, Tryz.results59, ↓V_convert, ↓V_bytes, stdl, cond_true, cond_false, Nat.reduceEqDiff, Nat.reduceAdd, Nat.reduceMul, Nat.reduceSub, Nat.reduceLT, Int.reduceEq, Int.reduceLT, Int.reduceLE, Int.reduceNeg, Nat.reduceLeDiff, if_true, if_false, ↓reduceIte, forall_const, implies_true, reduceCtorEq, forall_eq_or_imp, forall_eq, ne_eq, hlt]
  clear hx hlt hi
  have hrow : (List.replicate 56 (Value.bool false)).map (fun v => [Cell.v v]) = none0.map boolRow := by unfold none0; simp [boolRow]
  refine V_loopI mixed (ι := {p : Nat × List Bool // p.1 ≤ f.inodes.length ∧ p.2.length = 56 ∧ isFS f = restI f p.2 (f.inodes.drop p.1)}) (fun p => ⟨[(1, true, .ptr 0 0 0 0), (7, true, .ptr 1 1 0 0), (79, true, .rd 10 (f.inodes.map inodeRow)), (80, true, I f.inodes.length), (81, true, I p.1.1)], [(1, .row 122 1 (p.1.2.map boolRow)), (0, .box 35 [I f.tick, .rd 2 (f.quotas.map quotaRow), .rd 10 (f.inodes.map inodeRow), .rd 1 (f.data.map strRow)])], 2, 154⟩) (fun p => f.inodes.length - p.1.1) ⟨(0, none0), by simp only [List.drop_zero]; exact ⟨by omega, by simp [none0], hIs⟩⟩ ?_ ?_ ?_
  · refine Weak.trans (weak_arr (d := 7) (k := 1) (e := 122) (vals := List.replicate 56 (.bool false)) ?_ ?_) ?_
    · simp (maxSteps := 2000000) only [↓ctl, evl, val, valP, own, app, wrt, tys, Tryz.ntmps59, Tryz.results59, ↓V_convert, ↓V_bytes, stdl, cond_true, cond_false, Nat.reduceEqDiff, Nat.reduceAdd, Nat.reduceMul, Nat.reduceSub, Nat.reduceLT, Int.reduceEq, Int.reduceLT, Int.reduceLE, Int.reduceNeg, Nat.reduceLeDiff, if_true, if_false, ↓reduceIte, forall_const, implies_true, reduceCtorEq, forall_eq_or_imp, forall_eq, ne_eq]
    · simp (maxSteps := 2000000) only [↓ctl, evl, val, valP, own, app, wrt, tys, Tryz.ntmps59, Tryz.results59, ↓V_convert, ↓V_bytes, stdl, cond_true, cond_false, Nat.reduceEqDiff, Nat.reduceAdd, Nat.reduceMul, Nat.reduceSub, Nat.reduceLT, Int.reduceEq, Int.reduceLT, Int.reduceLE, Int.reduceNeg, Nat.reduceLeDiff, if_true, if_false, ↓reduceIte, forall_const, implies_true, reduceCtorEq, forall_eq_or_imp, forall_eq, ne_eq]
    · refine weakI ?_
      simp (maxSteps := 2000000) only [↓ctl, evl, val, valP, own, app, wrt, tys, Tryz.ntmps59, Tryz.results59, ↓V_convert, ↓V_bytes, stdl, cond_true, cond_false, Nat.reduceEqDiff, Nat.reduceAdd, Nat.reduceMul, Nat.reduceSub, Nat.reduceLT, Int.reduceEq, Int.reduceLT, Int.reduceLE, Int.reduceNeg, Nat.reduceLeDiff, if_true, if_false, ↓reduceIte, forall_const, implies_true, reduceCtorEq, forall_eq_or_imp, forall_eq, ne_eq]
      exact ⟨rfl, congrArg (Chunk.row _ _) hrow⟩
  · trivial
  rintro ⟨⟨i, used⟩, hi, hul, hx⟩
  simp only at hi hul hx
  by_cases hlt : i < f.inodes.length
  · have hst := restI_step (f := f) (u := used) hlt
    have hm : f.inodes.getD i default ∈ f.inodes := by rw [getD_get _ i _ hlt]; exact List.getElem_mem hlt
    obtain ⟨m1, m2⟩ := hk.nodes _ hm
    have m3 := m1.1
    generalize hn : f.inodes.getD i default = n at *
    simp (maxSteps := 2000000) only [↓ctl, evl, val, valP, own, app, wrt, tys, Tryz.ntmps59, Tryz.results59, ↓V_convert, ↓V_bytes, stdl, cond_true, cond_false, Nat.reduceEqDiff, Nat.reduceAdd, Nat.reduceMul, Nat.reduceSub, Nat.reduceLT, Int.reduceEq, Int.reduceLT, Int.reduceLE, Int.reduceNeg, Nat.reduceLeDiff, if_true, if_false, ↓reduceIte, forall_const, implies_true, reduceCtorEq, forall_eq_or_imp, forall_eq, ne_eq, hlt, hn, inodeRow_e, ints_map, acls_map]
    refine V_callF mixed (cap := []) (fun _ => c_IsInode n m1.fits m2) (by simp (maxSteps := 2000000) only [↓ctl, evl, val, valP, own, app, wrt, tys, Tryz.ntmps59, Tryz.results59, ↓V_convert, ↓V_bytes, stdl, cond_true, cond_false, Nat.reduceEqDiff, Nat.reduceAdd, Nat.reduceMul, Nat.reduceSub, Nat.reduceLT, Int.reduceEq, Int.reduceLT, Int.reduceLE, Int.reduceNeg, Nat.reduceLeDiff, if_true, if_false, ↓reduceIte, forall_const, implies_true, reduceCtorEq, forall_eq_or_imp, forall_eq, ne_eq, inodeAV, ints_map, acls_map]) (by simp (maxSteps := 2000000) only [↓ctl, evl, val, valP, own, app, wrt, tys, Tryz.ntmps59, Tryz.results59, ↓V_convert, ↓V_bytes, stdl, cond_true, cond_false, Nat.reduceEqDiff, Nat.reduceAdd, Nat.reduceMul, Nat.reduceSub, Nat.reduceLT, Int.reduceEq, Int.reduceLT, Int.reduceLE, Int.reduceNeg, Nat.reduceLeDiff, if_true, if_false, ↓reduceIte, forall_const, implies_true, reduceCtorEq, forall_eq_or_imp, forall_eq, ne_eq]) (by simp (maxSteps := 2000000) only [↓ctl, evl, val, valP, own, app, wrt, tys, Tryz.ntmps59, Tryz.results59, ↓V_convert, ↓V_bytes, stdl, cond_true, cond_false, Nat.reduceEqDiff, Nat.reduceAdd, Nat.reduceMul, Nat.reduceSub, Nat.reduceLT, Int.reduceEq, Int.reduceLT, Int.reduceLE, Int.reduceNeg, Nat.reduceLeDiff, if_true, if_false, ↓reduceIte, forall_const, implies_true, reduceCtorEq, forall_eq_or_imp, forall_eq, ne_eq]) trivial ?_
    simp (maxSteps := 2000000) only [↓ctl, evl, val, valP, own, app, wrt, tys, Tryz.ntmps59, Tryz.results59, ↓V_convert, ↓V_bytes, stdl, cond_true, cond_false, Nat.reduceEqDiff, Nat.reduceAdd, Nat.reduceMul, Nat.reduceSub, Nat.reduceLT, Int.reduceEq, Int.reduceLT, Int.reduceLE, Int.reduceNeg, Nat.reduceLeDiff, if_true, if_false, ↓reduceIte, forall_const, implies_true, reduceCtorEq, forall_eq_or_imp, forall_eq, ne_eq]
    refine ⟨fun h => ?_, fun h => ?_⟩
    · rw [hx, hst, h]; rfl
    rw [h] at hst
    obtain ⟨s1, s2, s3⟩ := isInode_size h
    have huid := isInode_uid h
    refine V_loopI mixed (ι := {p : Nat × List Bool // p.1 ≤ n.blocks.length ∧ p.2.length = 56 ∧ isFS f = (match useBs n.uid p.2 (n.blocks.drop p.1) with | none => false | some v => tailOk f.data n && restI f v (f.inodes.drop (i + 1))) ∧ (p.1 = n.blocks.length → tailOk f.data n = true)}) (fun p => ⟨[(1, true, .ptr 0 0 0 0), (7, true, .ptr 1 1 0 0), (79, true, .rd 10 (f.inodes.map inodeRow)), (80, true, I f.inodes.length), (81, true, I i), (9, true, .ptr 2 0 0 0), (89, true, .rd 1 (n.blocks.map intRow)), (90, true, I n.blocks.length), (91, true, I p.1.1)], [(2, .box 81 [I n.kind, I n.mode, I n.uid, I n.gid, I n.links, I n.size, I n.tick, .rd 1 (n.blocks.map intRow), .rd 3 (n.acl.map aclRow), .rd 3 (n.dflt.map aclRow)]), (1, .row 122 1 (p.1.2.map boolRow)), (0, .box 35 [I f.tick, .rd 2 (f.quotas.map quotaRow), .rd 10 (f.inodes.map inodeRow), .rd 1 (f.data.map strRow)])], 3, 154⟩) (fun p => n.blocks.length - p.1.1) ⟨(0, used), by simp only [List.drop_zero]; exact ⟨by omega, hul, hx.trans hst, fun h0 => by unfold tailOk; rw [if_pos h0.symm]⟩⟩ ?_ ?_ ?_
    · refine weakI ?_
      simp (maxSteps := 2000000) only [↓ctl, evl, val, valP, own, app, wrt, tys, Tryz.ntmps59, Tryz.results59, ↓V_convert, ↓V_bytes, stdl, cond_true, cond_false, Nat.reduceEqDiff, Nat.reduceAdd, Nat.reduceMul, Nat.reduceSub, Nat.reduceLT, Int.reduceEq, Int.reduceLT, Int.reduceLE, Int.reduceNeg, Nat.reduceLeDiff, if_true, if_false, ↓reduceIte, forall_const, implies_true, reduceCtorEq, forall_eq_or_imp, forall_eq, ne_eq]
      try rfl
    · trivial
    rintro ⟨⟨j, us⟩, hj, hl, hy, hz⟩
    simp only at hj hl hy hz
    by_cases hjl : j < n.blocks.length
    · have hbs := useBs_step (uid := n.uid) (used := us) hjl
      have hlast : j + 1 = n.blocks.length → n.blocks.getD (n.blocks.length - 1) default = n.blocks.getD j default := fun he => by rw [← he]; rfl
      have hnz : n.blocks.length ≠ 0 := by omega
      have hsz : 0 < n.size - (j : Int) * 32 ∧ (j : Int) * 32 < 256 ∧ (j + 1 = n.blocks.length → n.size - (j : Int) * 32 ≤ 32) ∧ (n.size - (j : Int) * 32 < 32 → j + 1 = n.blocks.length) := by
        unfold need at s3; split at s3 <;> omega
      have e3 : IntKind.i64.wrap ((j : Int) * 32) = (j : Int) * 32 := wrap_id (by omega) (by omega)
      have e4 : IntKind.i64.wrap (n.size - (j : Int) * 32) = n.size - (j : Int) * 32 := wrap_id (by omega) (by omega)
      generalize hbb : n.blocks.getD j default = b at *
      by_cases hb1 : b = -1
      · subst hb1
        simp (maxSteps := 2000000) only [↓ctl, evl, val, valP, own, app, wrt, tys, Tryz.ntmps59, Tryz.results59, ↓V_convert, ↓V_bytes, stdl, cond_true, cond_false, Nat.reduceEqDiff, Nat.reduceAdd, Nat.reduceMul, Nat.reduceSub, Nat.reduceLT, Int.reduceEq, Int.reduceLT, Int.reduceLE, Int.reduceNeg, Nat.reduceLeDiff, if_true, if_false, ↓reduceIte, forall_const, implies_true, reduceCtorEq, forall_eq_or_imp, forall_eq, ne_eq, hjl, hbb]
        refine V_backI ⟨(j + 1, us), ?_⟩ (by show _ - (j + 1) < _; omega) (weakI ?_)
        · refine ⟨by simp only; omega, hl, ?_, fun he => ?_⟩
          · rw [hy, hbs]; simp [useB]
          · unfold tailOk; rw [if_neg hnz, if_pos (hlast he)]
        · simp (maxSteps := 2000000) only [↓ctl, evl, val, valP, own, app, wrt, tys, Tryz.ntmps59, Tryz.results59, ↓V_convert, ↓V_bytes, stdl, cond_true, cond_false, Nat.reduceEqDiff, Nat.reduceAdd, Nat.reduceMul, Nat.reduceSub, Nat.reduceLT, Int.reduceEq, Int.reduceLT, Int.reduceLE, Int.reduceNeg, Nat.reduceLeDiff, if_true, if_false, ↓reduceIte, forall_const, implies_true, reduceCtorEq, forall_eq_or_imp, forall_eq, ne_eq]
          rw [wrap_id (by omega) (by omega)]
          rfl
      simp (maxSteps := 2000000) only [↓ctl, evl, val, valP, own, app, wrt, tys, Tryz.ntmps59, Tryz.results59, ↓V_convert, ↓V_bytes, stdl, cond_true, cond_false, Nat.reduceEqDiff, Nat.reduceAdd, Nat.reduceMul, Nat.reduceSub, Nat.reduceLT, Int.reduceEq, Int.reduceLT, Int.reduceLE, Int.reduceNeg, Nat.reduceLeDiff, if_true, if_false, ↓reduceIte, forall_const, implies_true, reduceCtorEq, forall_eq_or_imp, forall_eq, ne_eq, hjl, hbb, hb1]
      refine ⟨by kernel_rfl, ?_⟩
      refine V_callF mixed (cap := []) (fun _ => c_BlockOwner b) (by simp (maxSteps := 2000000) (contextual := true) only [↓ctl, evl, val, valP, own, app, wrt, tys, Tryz.ntmps59, Tryz.results59, ↓V_convert, ↓V_bytes, stdl, cond_true, cond_false, Nat.reduceEqDiff, Nat.reduceAdd, Nat.reduceMul, Nat.reduceSub, Nat.reduceLT, Int.reduceEq, Int.reduceLT, Int.reduceLE, Int.reduceNeg, Nat.reduceLeDiff, if_true, if_false, ↓reduceIte, forall_const, implies_true, reduceCtorEq, forall_eq_or_imp, forall_eq, ne_eq]) (by simp (maxSteps := 2000000) (contextual := true) only [↓ctl, evl, val, valP, own, app, wrt, tys, Tryz.ntmps59, Tryz.results59, ↓V_convert, ↓V_bytes, stdl, cond_true, cond_false, Nat.reduceEqDiff, Nat.reduceAdd, Nat.reduceMul, Nat.reduceSub, Nat.reduceLT, Int.reduceEq, Int.reduceLT, Int.reduceLE, Int.reduceNeg, Nat.reduceLeDiff, if_true, if_false, ↓reduceIte, forall_const, implies_true, reduceCtorEq, forall_eq_or_imp, forall_eq, ne_eq]) (by simp (maxSteps := 2000000) (contextual := true) only [↓ctl, evl, val, valP, own, app, wrt, tys, Tryz.ntmps59, Tryz.results59, ↓V_convert, ↓V_bytes, stdl, cond_true, cond_false, Nat.reduceEqDiff, Nat.reduceAdd, Nat.reduceMul, Nat.reduceSub, Nat.reduceLT, Int.reduceEq, Int.reduceLT, Int.reduceLE, Int.reduceNeg, Nat.reduceLeDiff, if_true, if_false, ↓reduceIte, forall_const, implies_true, reduceCtorEq, forall_eq_or_imp, forall_eq, ne_eq]) trivial ?_
      by_cases ho : ¬ owner b = n.uid
      · have ho' : (owner b == n.uid) = false := beq_eq_false_iff_ne.2 ho
        have hB : useB n.uid us b = none := by unfold useB; rw [if_neg hb1, if_neg (fun h => ho h.1)]
        rw [hbs, hB] at hy
        simp (maxSteps := 2000000) only [↓ctl, evl, val, valP, own, app, wrt, tys, Tryz.ntmps59, Tryz.results59, ↓V_convert, ↓V_bytes, stdl, cond_true, cond_false, Nat.reduceEqDiff, Nat.reduceAdd, Nat.reduceMul, Nat.reduceSub, Nat.reduceLT, Int.reduceEq, Int.reduceLT, Int.reduceLE, Int.reduceNeg, Nat.reduceLeDiff, if_true, if_false, ↓reduceIte, forall_const, implies_true, reduceCtorEq, forall_eq_or_imp, forall_eq, ne_eq, ho, ho']
        exact hy.symm
      have ho : owner b = n.uid := Classical.not_not.1 ho
      obtain ⟨o1, o2⟩ := owner_in ho huid
      have o3 : b.toNat < us.length := by omega
      have o4 : b.toNat < f.data.length := by omega
      have o5 : b < f.data.length := by omega
      have hd32 : (f.data.getD b.toNat default).length = 32 := hlen _ (by rw [getD_get _ _ _ o4]; exact List.getElem_mem o4)
      simp (maxSteps := 2000000) only [↓ctl, evl, val, valP, own, app, wrt, tys, Tryz.ntmps59, Tryz.results59, ↓V_convert, ↓V_bytes, stdl, cond_true, cond_false, Nat.reduceEqDiff, Nat.reduceAdd, Nat.reduceMul, Nat.reduceSub, Nat.reduceLT, Int.reduceEq, Int.reduceLT, Int.reduceLE, Int.reduceNeg, Nat.reduceLeDiff, if_true, if_false, ↓reduceIte, forall_const, implies_true, reduceCtorEq, forall_eq_or_imp, forall_eq, ne_eq, ho, o1, o2, o3, o4, o5, e3, e4, hd32]
      refine ⟨⟨56, 4, ⟨rfl, rfl⟩, by omega, by omega⟩, fun hu => ?_, fun hu => ⟨⟨56, 4, ⟨rfl, rfl⟩, by omega, by omega⟩, ?_⟩⟩
      · have hB : useB n.uid us b = none := by unfold useB; rw [if_neg hb1, if_neg (fun h' => by rw [hu] at h'; exact absurd h'.2 (by simp))]
        rw [hbs, hB] at hy
        exact hy.symm
      have hB : useB n.uid us b = some (us.set b.toNat true) := by unfold useB; rw [if_neg hb1, if_pos ⟨ho, hu⟩]
      rw [hbs, hB] at hy
      have hto : j + 1 = n.blocks.length → tailOk f.data n = zeroes ((f.data.getD b.toNat default).drop (n.size - (j : Int) * 32).toNat) := fun he => by
        unfold tailOk; rw [if_neg hnz, hlast he, if_neg hb1]; congr 3; omega
      have tk : List.take (32 - (n.size - (j : Int) * 32).toNat) (List.drop (n.size - (j : Int) * 32).toNat (f.data.getD b.toNat default)) = List.drop (n.size - (j : Int) * 32).toNat (f.data.getD b.toNat default) := List.take_of_length_le (by rw [List.length_drop, hd32]; omega)
      refine ⟨fun h => ⟨h, h, by omega, by omega⟩, ?_⟩
      refine V_callF mixed (cap := []) (fun _ => c_IsZeroes (List.drop (n.size - (j : Int) * 32).toNat (f.data.getD b.toNat default)) (by rw [List.length_drop, hd32]; omega)) (by simp (maxSteps := 2000000) (contextual := true) only [↓ctl, evl, val, valP, own, app, wrt, tys, Tryz.ntmps59, Tryz.results59, ↓V_convert, ↓V_bytes, stdl, cond_true, cond_false, Nat.reduceEqDiff, Nat.reduceAdd, Nat.reduceMul, Nat.reduceSub, Nat.reduceLT, Int.reduceEq, Int.reduceLT, Int.reduceLE, Int.reduceNeg, Nat.reduceLeDiff, if_true, if_false, ↓reduceIte, forall_const, implies_true, reduceCtorEq, forall_eq_or_imp, forall_eq, ne_eq, tk]) (by simp (maxSteps := 2000000) (contextual := true) only [↓ctl, evl, val, valP, own, app, wrt, tys, Tryz.ntmps59, Tryz.results59, ↓V_convert, ↓V_bytes, stdl, cond_true, cond_false, Nat.reduceEqDiff, Nat.reduceAdd, Nat.reduceMul, Nat.reduceSub, Nat.reduceLT, Int.reduceEq, Int.reduceLT, Int.reduceLE, Int.reduceNeg, Nat.reduceLeDiff, if_true, if_false, ↓reduceIte, forall_const, implies_true, reduceCtorEq, forall_eq_or_imp, forall_eq, ne_eq]) (by simp (maxSteps := 2000000) (contextual := true) only [↓ctl, evl, val, valP, own, app, wrt, tys, Tryz.ntmps59, Tryz.results59, ↓V_convert, ↓V_bytes, stdl, cond_true, cond_false, Nat.reduceEqDiff, Nat.reduceAdd, Nat.reduceMul, Nat.reduceSub, Nat.reduceLT, Int.reduceEq, Int.reduceLT, Int.reduceLE, Int.reduceNeg, Nat.reduceLeDiff, if_true, if_false, ↓reduceIte, forall_const, implies_true, reduceCtorEq, forall_eq_or_imp, forall_eq, ne_eq]) trivial ?_
      simp (maxSteps := 2000000) only [↓ctl, evl, val, valP, own, app, wrt, tys, Tryz.ntmps59, Tryz.results59, ↓V_convert, ↓V_bytes, stdl, cond_true, cond_false, Nat.reduceEqDiff, Nat.reduceAdd, Nat.reduceMul, Nat.reduceSub, Nat.reduceLT, Int.reduceEq, Int.reduceLT, Int.reduceLE, Int.reduceNeg, Nat.reduceLeDiff, if_true, if_false, ↓reduceIte, forall_const, implies_true, reduceCtorEq, forall_eq_or_imp, forall_eq, ne_eq]
      refine ⟨fun hz' => ?_, fun hz' => V_backI ⟨(j + 1, us.set b.toNat true), ?_⟩ (by show _ - (j + 1) < _; omega) (weakI ?_)⟩
      · have ht0 : tailOk f.data n = false := by rw [hto (hsz.2.2.2 hz'.1)]; exact hz'.2
        rw [ht0] at hy
        rw [hy]
        show false = match useBs n.uid (us.set b.toNat true) (n.blocks.drop (j + 1)) with | none => false | some v => false && restI f v (f.inodes.drop (i + 1))
        cases useBs n.uid (us.set b.toNat true) (n.blocks.drop (j + 1)) <;> rfl
      · refine ⟨by simp only; omega, by simp only [List.length_set]; exact hl, hy, fun he => ?_⟩
        rw [hto he]
        by_cases h32 : n.size - (j : Int) * 32 < 32
        · exact hz' h32
        · have : List.drop (n.size - (j : Int) * 32).toNat (f.data.getD b.toNat default) = [] := List.drop_eq_nil_of_le (by rw [hd32]; omega)
          rw [this]; rfl
      · simp (maxSteps := 2000000) only [↓ctl, evl, val, valP, own, app, wrt, tys, Tryz.ntmps59, Tryz.results59, ↓V_convert, ↓V_bytes, stdl, cond_true, cond_false, Nat.reduceEqDiff, Nat.reduceAdd, Nat.reduceMul, Nat.reduceSub, Nat.reduceLT, Int.reduceEq, Int.reduceLT, Int.reduceLE, Int.reduceNeg, Nat.reduceLeDiff, if_true, if_false, ↓reduceIte, forall_const, implies_true, reduceCtorEq, forall_eq_or_imp, forall_eq, ne_eq]
        rw [wrap_id (by omega) (by omega)]
        exact ⟨rfl, congrArg (Chunk.row _ _) (set_map_fn boolRow us b.toNat true)⟩
    · simp (maxSteps := 2000000) only [↓ctl, evl, val, valP, own, app, wrt, tys, Tryz.ntmps59, Tryz.results59, ↓V_convert, ↓V_bytes, stdl, cond_true, cond_false, Nat.reduceEqDiff, Nat.reduceAdd, Nat.reduceMul, Nat.reduceSub, Nat.reduceLT, Int.reduceEq, Int.reduceLT, Int.reduceLE, Int.reduceNeg, Nat.reduceLeDiff, if_true, if_false, ↓reduceIte, forall_const, implies_true, reduceCtorEq, forall_eq_or_imp, forall_eq, ne_eq, hjl]
      have hend : useBs n.uid us (n.blocks.drop j) = some us := by rw [drop_end _ _ hjl]; rfl
      rw [hend, hz (by omega)] at hy
      refine V_backI ⟨(i + 1, us), by simp only; omega, hl, hy⟩ (by show _ - (i + 1) < _; omega) (weakI ?_)
      simp (maxSteps := 2000000) only [↓ctl, evl, val, valP, own, app, wrt, tys, Tryz.ntmps59, Tryz.results59, ↓V_convert, ↓V_bytes, stdl, cond_true, cond_false, Nat.reduceEqDiff, Nat.reduceAdd, Nat.reduceMul, Nat.reduceSub, Nat.reduceLT, Int.reduceEq, Int.reduceLT, Int.reduceLE, Int.reduceNeg, Nat.reduceLeDiff, if_true, if_false, ↓reduceIte, forall_const, implies_true, reduceCtorEq, forall_eq_or_imp, forall_eq, ne_eq]
      rw [wrap_id (by omega) (by omega)]
      rfl
  have hF : isFS f = finI f used := by rw [hx, drop_end _ _ hlt]; rfl
  simp (maxSteps := 2000000) only [↓ctl, evl, val, valP, own, app, wrt, tys, Tryz.ntmps59, Tryz.results59, ↓V_convert, ↓V_bytes, stdl, cond_true, cond_false, Nat.reduceEqDiff, Nat.reduceAdd, Nat.reduceMul, Nat.reduceSub, Nat.reduceLT, Int.reduceEq, Int.reduceLT, Int.reduceLE, Int.reduceNeg, Nat.reduceLeDiff, if_true, if_false, ↓reduceIte, forall_const, implies_true, reduceCtorEq, forall_eq_or_imp, forall_eq, ne_eq, hlt]
  clear hx hlt hi
  refine V_loopI mixed (ι := {i : Nat // i ≤ f.data.length ∧ freeOk used f.data = freeOk (used.drop i) (f.data.drop i)}) (fun i => ⟨[(1, true, .ptr 0 0 0 0), (7, true, .ptr 1 1 0 0), (131, true, .rd 1 (f.data.map strRow)), (132, true, I f.data.length), (133, true, I i.1)], [(1, .row 122 1 (used.map boolRow)), (0, .box 35 [I f.tick, .rd 2 (f.quotas.map quotaRow), .rd 10 (f.inodes.map inodeRow), .rd 1 (f.data.map strRow)])], 2, 154⟩) (fun i => f.data.length - i.1)  ⟨0, by simp⟩ ?_ ?_ ?_
  · refine weakI ?_
    simp (maxSteps := 2000000) only [↓ctl, evl, val, valP, own, app, wrt, tys, Tryz.ntmps59, Tryz.results59, ↓V_convert, ↓V_bytes, stdl, cond_true, cond_false, Nat.reduceEqDiff, Nat.reduceAdd, Nat.reduceMul, Nat.reduceSub, Nat.reduceLT, Int.reduceEq, Int.reduceLT, Int.reduceLE, Int.reduceNeg, Nat.reduceLeDiff, if_true, if_false, ↓reduceIte, forall_const, implies_true, reduceCtorEq, forall_eq_or_imp, forall_eq, ne_eq]
    try rfl
  · trivial
  rintro ⟨i, hi, hy⟩
  by_cases hlt : i < f.data.length
  · have hst2 := freeOk_step (us := used) hlt (by omega)
    have e3 : i < used.length := by omega
    have ht := hk.texts _ (show f.data.getD i default ∈ f.data by rw [getD_get _ i _ hlt]; exact List.getElem_mem hlt)
    simp (maxSteps := 2000000) only [↓ctl, evl, val, valP, own, app, wrt, tys, Tryz.ntmps59, Tryz.results59, ↓V_convert, ↓V_bytes, stdl, cond_true, cond_false, Nat.reduceEqDiff, Nat.reduceAdd, Nat.reduceMul, Nat.reduceSub, Nat.reduceLT, Int.reduceEq, Int.reduceLT, Int.reduceLE, Int.reduceNeg, Nat.reduceLeDiff, if_true, if_false, ↓reduceIte, forall_const, implies_true, reduceCtorEq, forall_eq_or_imp, forall_eq, ne_eq, hlt, e3]
    refine ⟨⟨56, 4, ⟨rfl, rfl⟩, by omega, by omega⟩, ?_⟩
    refine V_callF mixed (cap := []) (fun _ => c_IsZeroes (f.data.getD i default) (by omega)) (by simp (maxSteps := 2000000) (contextual := true) only [↓ctl, evl, val, valP, own, app, wrt, tys, Tryz.ntmps59, Tryz.results59, ↓V_convert, ↓V_bytes, stdl, cond_true, cond_false, Nat.reduceEqDiff, Nat.reduceAdd, Nat.reduceMul, Nat.reduceSub, Nat.reduceLT, Int.reduceEq, Int.reduceLT, Int.reduceLE, Int.reduceNeg, Nat.reduceLeDiff, if_true, if_false, ↓reduceIte, forall_const, implies_true, reduceCtorEq, forall_eq_or_imp, forall_eq, ne_eq]) (by simp (maxSteps := 2000000) (contextual := true) only [↓ctl, evl, val, valP, own, app, wrt, tys, Tryz.ntmps59, Tryz.results59, ↓V_convert, ↓V_bytes, stdl, cond_true, cond_false, Nat.reduceEqDiff, Nat.reduceAdd, Nat.reduceMul, Nat.reduceSub, Nat.reduceLT, Int.reduceEq, Int.reduceLT, Int.reduceLE, Int.reduceNeg, Nat.reduceLeDiff, if_true, if_false, ↓reduceIte, forall_const, implies_true, reduceCtorEq, forall_eq_or_imp, forall_eq, ne_eq]) (by simp (maxSteps := 2000000) (contextual := true) only [↓ctl, evl, val, valP, own, app, wrt, tys, Tryz.ntmps59, Tryz.results59, ↓V_convert, ↓V_bytes, stdl, cond_true, cond_false, Nat.reduceEqDiff, Nat.reduceAdd, Nat.reduceMul, Nat.reduceSub, Nat.reduceLT, Int.reduceEq, Int.reduceLT, Int.reduceLE, Int.reduceNeg, Nat.reduceLeDiff, if_true, if_false, ↓reduceIte, forall_const, implies_true, reduceCtorEq, forall_eq_or_imp, forall_eq, ne_eq]) trivial ?_
    simp (maxSteps := 2000000) only [↓ctl, evl, val, valP, own, app, wrt, tys, Tryz.ntmps59, Tryz.results59, ↓V_convert, ↓V_bytes, stdl, cond_true, cond_false, Nat.reduceEqDiff, Nat.reduceAdd, Nat.reduceMul, Nat.reduceSub, Nat.reduceLT, Int.reduceEq, Int.reduceLT, Int.reduceLE, Int.reduceNeg, Nat.reduceLeDiff, if_true, if_false, ↓reduceIte, forall_const, implies_true, reduceCtorEq, forall_eq_or_imp, forall_eq, ne_eq]
    refine ⟨fun h => ?_, fun h => V_backI ⟨i + 1, by omega, ?_⟩ (by show _ - (i + 1) < _; omega) (weakI ?_)⟩
    · rw [hF]; unfold finI; rw [hy, hst2, h.1, h.2]; rfl
    · rw [hy, hst2]; grind
    · simp (maxSteps := 2000000) only [↓ctl, evl, val, valP, own, app, wrt, tys, Tryz.ntmps59, Tryz.results59, ↓V_convert, ↓V_bytes, stdl, cond_true, cond_false, Nat.reduceEqDiff, Nat.reduceAdd, Nat.reduceMul, Nat.reduceSub, Nat.reduceLT, Int.reduceEq, Int.reduceLT, Int.reduceLE, Int.reduceNeg, Nat.reduceLeDiff, if_true, if_false, ↓reduceIte, forall_const, implies_true, reduceCtorEq, forall_eq_or_imp, forall_eq, ne_eq]
      rw [wrap_id (by omega) (by omega)]
      rfl
  have hfr : freeOk used f.data = true := by rw [hy, freeOk_end hlt]
  have z0 : (0 : Nat) < f.inodes.length := by omega
  simp (maxSteps := 2000000) only [↓ctl, evl, val, valP, own, app, wrt, tys, Tryz.ntmps59, Tryz.results59, ↓V_convert, ↓V_bytes, stdl, cond_true, cond_false, Nat.reduceEqDiff, Nat.reduceAdd, Nat.reduceMul, Nat.reduceSub, Nat.reduceLT, Int.reduceEq, Int.reduceLT, Int.reduceLE, Int.reduceNeg, Nat.reduceLeDiff, if_true, if_false, ↓reduceIte, forall_const, implies_true, reduceCtorEq, forall_eq_or_imp, forall_eq, ne_eq, hlt, z0, inodeRow_e]
  refine ⟨by omega, ?_⟩
  rw [hF]; unfold finI; rw [hfr]; rfl
end Go.Proofs.YtobnbajakenbeaaGreat


/- Contracts: the superblock.  -/
set_option linter.all false
set_option maxRecDepth 10000
set_option maxHeartbeats 4000000
namespace Go.Proofs.YtobnbajakenbeaaGreat
open Go Go.Eng

def superHead (t : Int) : List UInt8 := [70, 83, 89, 83] ++ putNum t 4
def quotaB (q : Quota) : List UInt8 := putNum q.inodes 1 ++ putNum q.blocks 1
def quotaBs (l : List Quota) (i : Nat) : List UInt8 := ((l.take i).map quotaB).flatten
def superB (f : FS) : List UInt8 := padTo (superHead f.tick ++ quotaBs f.quotas f.quotas.length) 32
theorem quotaBs_succ {l : List Quota} {i : Nat} (h : i < l.length) : quotaBs l (i + 1) = quotaBs l i ++ quotaB (l.getD i default) := by
  unfold quotaBs; rw [List.take_succ, List.map_append, List.flatten_append, getD_get l i default h, List.getElem?_eq_getElem h]; simp
theorem quotaBs_len (l : List Quota) (i : Nat) : (quotaBs l i).length ≤ 2 * i := by
  unfold quotaBs
  induction i generalizing l with
  | zero => simp
  | succ i ih =>
    cases l with
    | nil => simp
    | cons q l =>
      have := ih l
      have q1 := putNum_len q.inodes 1
      have q2 := putNum_len q.blocks 1
      simp only [List.take_succ_cons, List.map_cons, List.flatten_cons, List.length_append, quotaB]
      omega
structure FS.ints (f : FS) : Prop where
  tick : In64 f.tick
  quotas : ∀ q ∈ f.quotas, In64 q.inodes ∧ In64 q.blocks
theorem d_Super (f : FS) (hk : f.ints) (hq : f.quotas.length = 4) : Gives Go.Proofs.Tryz.prog 53 [fsAV f] (str (superB f)) := by
  refine gives_of_V mixed Go.Proofs.Tryz.call53 Go.Proofs.Tryz.func53 rfl (by rw [Go.Proofs.Tryz.ntmps53]; simp) ?_
  simp (maxSteps := 2000000) only [↓ctl, evl, val, valP, own, app, wrt, tys, Tryz.ntmps53, Tryz.results53, ↓V_convert, ↓V_bytes, stdl, cond_true, cond_false, Nat.reduceEqDiff, Nat.reduceAdd, Nat.reduceMul, Nat.reduceSub, Nat.reduceLT, Int.reduceEq, Int.reduceLT, Int.reduceLE, Int.reduceNeg, Nat.reduceLeDiff, if_true, if_false, ↓reduceIte, forall_const, implies_true, reduceCtorEq, forall_eq_or_imp, forall_eq, ne_eq, fsAV]
  have ht := putNum_len f.tick 4
  refine V_callF mixed (cap := []) (fun _ => d_Put4 f.tick hk.tick) (by simp (maxSteps := 2000000) (contextual := true) only [↓ctl, evl, val, valP, own, app, wrt, tys, Tryz.ntmps53, Tryz.results53, ↓V_convert, ↓V_bytes, stdl, cond_true, cond_false, Nat.reduceEqDiff, Nat.reduceAdd, Nat.reduceMul, Nat.reduceSub, Nat.reduceLT, Int.reduceEq, Int.reduceLT, Int.reduceLE, Int.reduceNeg, Nat.reduceLeDiff, if_true, if_false, ↓reduceIte, forall_const, implies_true, reduceCtorEq, forall_eq_or_imp, forall_eq, ne_eq]) (by simp (maxSteps := 2000000) (contextual := true) only [↓ctl, evl, val, valP, own, app, wrt, tys, Tryz.ntmps53, Tryz.results53, ↓V_convert, ↓V_bytes, stdl, cond_true, cond_false, Nat.reduceEqDiff, Nat.reduceAdd, Nat.reduceMul, Nat.reduceSub, Nat.reduceLT, Int.reduceEq, Int.reduceLT, Int.reduceLE, Int.reduceNeg, Nat.reduceLeDiff, if_true, if_false, ↓reduceIte, forall_const, implies_true, reduceCtorEq, forall_eq_or_imp, forall_eq, ne_eq]) (by simp (maxSteps := 2000000) (contextual := true) only [↓ctl, evl, val, valP, own, app, wrt, tys, Tryz.ntmps53, Tryz.results53, ↓V_convert, ↓V_bytes, stdl, cond_true, cond_false, Nat.reduceEqDiff, Nat.reduceAdd, Nat.reduceMul, Nat.reduceSub, Nat.reduceLT, Int.reduceEq, Int.reduceLT, Int.reduceLE, Int.reduceNeg, Nat.reduceLeDiff, if_true, if_false, ↓reduceIte, forall_const, implies_true, reduceCtorEq, forall_eq_or_imp, forall_eq, ne_eq]) trivial ?_
  simp (maxSteps := 2000000) only [↓ctl, evl, val, valP, own, app, wrt, tys, Tryz.ntmps53, Tryz.results53, ↓V_convert, ↓V_bytes, stdl, cond_true, cond_false, Nat.reduceEqDiff, Nat.reduceAdd, Nat.reduceMul, Nat.reduceSub, Nat.reduceLT, Int.reduceEq, Int.reduceLT, Int.reduceLE, Int.reduceNeg, Nat.reduceLeDiff, if_true, if_false, ↓reduceIte, forall_const, implies_true, reduceCtorEq, forall_eq_or_imp, forall_eq, ne_eq]
  refine ⟨by omega, ?_⟩
  refine V_loopI mixed (ι := {i : Nat // i ≤ f.quotas.length}) (fun i => ⟨[(1, true, .ptr 0 0 0 0), (3, true, Sx (superHead f.tick ++ quotaBs f.quotas i.1)), (11, true, .rd 2 (f.quotas.map quotaRow)), (12, true, I f.quotas.length), (13, true, I i.1)], [(0, .box 35 [I f.tick, .rd 2 (f.quotas.map quotaRow), .rd 10 (f.inodes.map inodeRow), .rd 1 (f.data.map strRow)])], 1, 29⟩) (fun i => f.quotas.length - i.1)  ⟨0, by omega⟩ ?_ ?_ ?_
  · refine weakI ?_
    simp (maxSteps := 2000000) only [↓ctl, evl, val, valP, own, app, wrt, tys, Tryz.ntmps53, Tryz.results53, ↓V_convert, ↓V_bytes, stdl, cond_true, cond_false, Nat.reduceEqDiff, Nat.reduceAdd, Nat.reduceMul, Nat.reduceSub, Nat.reduceLT, Int.reduceEq, Int.reduceLT, Int.reduceLE, Int.reduceNeg, Nat.reduceLeDiff, if_true, if_false, ↓reduceIte, forall_const, implies_true, reduceCtorEq, forall_eq_or_imp, forall_eq, ne_eq]
    simp [superHead, quotaBs]
  · trivial
  rintro ⟨i, hi⟩
  have hbl := quotaBs_len f.quotas i
  have hhl : (superHead f.tick).length ≤ 8 := by unfold superHead; simp only [List.length_append, List.length_cons, List.length_nil]; omega
  by_cases hlt : i < f.quotas.length
  · obtain ⟨m1, m2⟩ := hk.quotas _ (show f.quotas.getD i default ∈ f.quotas by rw [getD_get _ i _ hlt]; exact List.getElem_mem hlt)
    have hst := quotaBs_succ hlt
    have q1 := putNum_len (f.quotas.getD i default).inodes 1
    have q2 := putNum_len (f.quotas.getD i default).blocks 1
    simp (maxSteps := 2000000) only [↓ctl, evl, val, valP, own, app, wrt, tys, Tryz.ntmps53, Tryz.results53, ↓V_convert, ↓V_bytes, stdl, cond_true, cond_false, Nat.reduceEqDiff, Nat.reduceAdd, Nat.reduceMul, Nat.reduceSub, Nat.reduceLT, Int.reduceEq, Int.reduceLT, Int.reduceLE, Int.reduceNeg, Nat.reduceLeDiff, if_true, if_false, ↓reduceIte, forall_const, implies_true, reduceCtorEq, forall_eq_or_imp, forall_eq, ne_eq, hlt, quotaRow_e]
    refine ⟨by kernel_rfl, ?_⟩
    refine V_callF mixed (cap := []) (fun _ => d_Put1 (f.quotas.getD i default).inodes m1) (by simp (maxSteps := 2000000) (contextual := true) only [↓ctl, evl, val, valP, own, app, wrt, tys, Tryz.ntmps53, Tryz.results53, ↓V_convert, ↓V_bytes, stdl, cond_true, cond_false, Nat.reduceEqDiff, Nat.reduceAdd, Nat.reduceMul, Nat.reduceSub, Nat.reduceLT, Int.reduceEq, Int.reduceLT, Int.reduceLE, Int.reduceNeg, Nat.reduceLeDiff, if_true, if_false, ↓reduceIte, forall_const, implies_true, reduceCtorEq, forall_eq_or_imp, forall_eq, ne_eq]) (by simp (maxSteps := 2000000) (contextual := true) only [↓ctl, evl, val, valP, own, app, wrt, tys, Tryz.ntmps53, Tryz.results53, ↓V_convert, ↓V_bytes, stdl, cond_true, cond_false, Nat.reduceEqDiff, Nat.reduceAdd, Nat.reduceMul, Nat.reduceSub, Nat.reduceLT, Int.reduceEq, Int.reduceLT, Int.reduceLE, Int.reduceNeg, Nat.reduceLeDiff, if_true, if_false, ↓reduceIte, forall_const, implies_true, reduceCtorEq, forall_eq_or_imp, forall_eq, ne_eq]) (by simp (maxSteps := 2000000) (contextual := true) only [↓ctl, evl, val, valP, own, app, wrt, tys, Tryz.ntmps53, Tryz.results53, ↓V_convert, ↓V_bytes, stdl, cond_true, cond_false, Nat.reduceEqDiff, Nat.reduceAdd, Nat.reduceMul, Nat.reduceSub, Nat.reduceLT, Int.reduceEq, Int.reduceLT, Int.reduceLE, Int.reduceNeg, Nat.reduceLeDiff, if_true, if_false, ↓reduceIte, forall_const, implies_true, reduceCtorEq, forall_eq_or_imp, forall_eq, ne_eq]) trivial ?_
    simp (maxSteps := 2000000) only [↓ctl, evl, val, valP, own, app, wrt, tys, Tryz.ntmps53, Tryz.results53, ↓V_convert, ↓V_bytes, stdl, cond_true, cond_false, Nat.reduceEqDiff, Nat.reduceAdd, Nat.reduceMul, Nat.reduceSub, Nat.reduceLT, Int.reduceEq, Int.reduceLT, Int.reduceLE, Int.reduceNeg, Nat.reduceLeDiff, if_true, if_false, ↓reduceIte, forall_const, implies_true, reduceCtorEq, forall_eq_or_imp, forall_eq, ne_eq]
    refine ⟨by simp only [List.length_append]; omega, ?_⟩
    refine V_callF mixed (cap := []) (fun _ => d_Put1 (f.quotas.getD i default).blocks m2) (by simp (maxSteps := 2000000) (contextual := true) only [↓ctl, evl, val, valP, own, app, wrt, tys, Tryz.ntmps53, Tryz.results53, ↓V_convert, ↓V_bytes, stdl, cond_true, cond_false, Nat.reduceEqDiff, Nat.reduceAdd, Nat.reduceMul, Nat.reduceSub, Nat.reduceLT, Int.reduceEq, Int.reduceLT, Int.reduceLE, Int.reduceNeg, Nat.reduceLeDiff, if_true, if_false, ↓reduceIte, forall_const, implies_true, reduceCtorEq, forall_eq_or_imp, forall_eq, ne_eq]) (by simp (maxSteps := 2000000) (contextual := true) only [↓ctl, evl, val, valP, own, app, wrt, tys, Tryz.ntmps53, Tryz.results53, ↓V_convert, ↓V_bytes, stdl, cond_true, cond_false, Nat.reduceEqDiff, Nat.reduceAdd, Nat.reduceMul, Nat.reduceSub, Nat.reduceLT, Int.reduceEq, Int.reduceLT, Int.reduceLE, Int.reduceNeg, Nat.reduceLeDiff, if_true, if_false, ↓reduceIte, forall_const, implies_true, reduceCtorEq, forall_eq_or_imp, forall_eq, ne_eq]) (by simp (maxSteps := 2000000) (contextual := true) only [↓ctl, evl, val, valP, own, app, wrt, tys, Tryz.ntmps53, Tryz.results53, ↓V_convert, ↓V_bytes, stdl, cond_true, cond_false, Nat.reduceEqDiff, Nat.reduceAdd, Nat.reduceMul, Nat.reduceSub, Nat.reduceLT, Int.reduceEq, Int.reduceLT, Int.reduceLE, Int.reduceNeg, Nat.reduceLeDiff, if_true, if_false, ↓reduceIte, forall_const, implies_true, reduceCtorEq, forall_eq_or_imp, forall_eq, ne_eq]) trivial ?_
    simp (maxSteps := 2000000) only [↓ctl, evl, val, valP, own, app, wrt, tys, Tryz.ntmps53, Tryz.results53, ↓V_convert, ↓V_bytes, stdl, cond_true, cond_false, Nat.reduceEqDiff, Nat.reduceAdd, Nat.reduceMul, Nat.reduceSub, Nat.reduceLT, Int.reduceEq, Int.reduceLT, Int.reduceLE, Int.reduceNeg, Nat.reduceLeDiff, if_true, if_false, ↓reduceIte, forall_const, implies_true, reduceCtorEq, forall_eq_or_imp, forall_eq, ne_eq]
    refine ⟨by simp only [List.length_append]; omega, V_backI ⟨i + 1, by omega⟩ (by show _ - (i + 1) < _; omega) (weakI ?_)⟩
    simp (maxSteps := 2000000) only [↓ctl, evl, val, valP, own, app, wrt, tys, Tryz.ntmps53, Tryz.results53, ↓V_convert, ↓V_bytes, stdl, cond_true, cond_false, Nat.reduceEqDiff, Nat.reduceAdd, Nat.reduceMul, Nat.reduceSub, Nat.reduceLT, Int.reduceEq, Int.reduceLT, Int.reduceLE, Int.reduceNeg, Nat.reduceLeDiff, if_true, if_false, ↓reduceIte, forall_const, implies_true, reduceCtorEq, forall_eq_or_imp, forall_eq, ne_eq]
    rw [wrap_id (by omega) (by omega), hst]
    unfold quotaB
    simp only [List.append_assoc]
    exact ⟨trivial, rfl⟩
  · have : i = f.quotas.length := by omega
    subst this
    simp (maxSteps := 2000000) only [↓ctl, evl, val, valP, own, app, wrt, tys, Tryz.ntmps53, Tryz.results53, ↓V_convert, ↓V_bytes, stdl, cond_true, cond_false, Nat.reduceEqDiff, Nat.reduceAdd, Nat.reduceMul, Nat.reduceSub, Nat.reduceLT, Int.reduceEq, Int.reduceLT, Int.reduceLE, Int.reduceNeg, Nat.reduceLeDiff, if_true, if_false, ↓reduceIte, forall_const, implies_true, reduceCtorEq, forall_eq_or_imp, forall_eq, ne_eq, hlt]
    refine V_callF mixed (cap := []) (fun _ => d_PadI (superHead f.tick ++ quotaBs f.quotas f.quotas.length) 32 32 rfl (by simp only [List.length_append]; omega) (by omega)) (by simp (maxSteps := 2000000) (contextual := true) only [↓ctl, evl, val, valP, own, app, wrt, tys, Tryz.ntmps53, Tryz.results53, ↓V_convert, ↓V_bytes, stdl, cond_true, cond_false, Nat.reduceEqDiff, Nat.reduceAdd, Nat.reduceMul, Nat.reduceSub, Nat.reduceLT, Int.reduceEq, Int.reduceLT, Int.reduceLE, Int.reduceNeg, Nat.reduceLeDiff, if_true, if_false, ↓reduceIte, forall_const, implies_true, reduceCtorEq, forall_eq_or_imp, forall_eq, ne_eq]) (by simp (maxSteps := 2000000) (contextual := true) only [↓ctl, evl, val, valP, own, app, wrt, tys, Tryz.ntmps53, Tryz.results53, ↓V_convert, ↓V_bytes, stdl, cond_true, cond_false, Nat.reduceEqDiff, Nat.reduceAdd, Nat.reduceMul, Nat.reduceSub, Nat.reduceLT, Int.reduceEq, Int.reduceLT, Int.reduceLE, Int.reduceNeg, Nat.reduceLeDiff, if_true, if_false, ↓reduceIte, forall_const, implies_true, reduceCtorEq, forall_eq_or_imp, forall_eq, ne_eq]) (by simp (maxSteps := 2000000) (contextual := true) only [↓ctl, evl, val, valP, own, app, wrt, tys, Tryz.ntmps53, Tryz.results53, ↓V_convert, ↓V_bytes, stdl, cond_true, cond_false, Nat.reduceEqDiff, Nat.reduceAdd, Nat.reduceMul, Nat.reduceSub, Nat.reduceLT, Int.reduceEq, Int.reduceLT, Int.reduceLE, Int.reduceNeg, Nat.reduceLeDiff, if_true, if_false, ↓reduceIte, forall_const, implies_true, reduceCtorEq, forall_eq_or_imp, forall_eq, ne_eq]) trivial ?_
    simp (maxSteps := 2000000) only [↓ctl, evl, val, valP, own, app, wrt, tys, Tryz.ntmps53, Tryz.results53, ↓V_convert, ↓V_bytes, stdl, cond_true, cond_false, Nat.reduceEqDiff, Nat.reduceAdd, Nat.reduceMul, Nat.reduceSub, Nat.reduceLT, Int.reduceEq, Int.reduceLT, Int.reduceLE, Int.reduceNeg, Nat.reduceLeDiff, if_true, if_false, ↓reduceIte, forall_const, implies_true, reduceCtorEq, forall_eq_or_imp, forall_eq, ne_eq]
    try rfl
theorem c_Super (f : FS) (hk : f.ints) (hq : f.quotas.length = 4) : Gives Go.Proofs.Tryz.prog 60 [.rq [I f.tick, .rd 2 (f.quotas.map quotaRow), .rd 10 (f.inodes.map inodeRow), .rd 1 (f.data.map strRow)] 0] (str (superB f)) := by
  refine gives_of_V mixed Go.Proofs.Tryz.call60 Go.Proofs.Tryz.func60 rfl (by rw [Go.Proofs.Tryz.ntmps60]; simp) ?_
  simp (maxSteps := 2000000) only [↓ctl, evl, val, valP, own, app, wrt, tys, Tryz.ntmps60, Tryz.results60, ↓V_convert, ↓V_bytes, stdl, cond_true, cond_false, Nat.reduceEqDiff, Nat.reduceAdd, Nat.reduceMul, Nat.reduceSub, Nat.reduceLT, Int.reduceEq, Int.reduceLT, Int.reduceLE, Int.reduceNeg, Nat.reduceLeDiff, if_true, if_false, ↓reduceIte, forall_const, implies_true, reduceCtorEq, forall_eq_or_imp, forall_eq, ne_eq]
  have ht := putNum_len f.tick 4
  refine V_callF mixed (cap := []) (fun _ => c_Put4 f.tick hk.tick) (by simp (maxSteps := 2000000) (contextual := true) only [↓ctl, evl, val, valP, own, app, wrt, tys, Tryz.ntmps60, Tryz.results60, ↓V_convert, ↓V_bytes, stdl, cond_true, cond_false, Nat.reduceEqDiff, Nat.reduceAdd, Nat.reduceMul, Nat.reduceSub, Nat.reduceLT, Int.reduceEq, Int.reduceLT, Int.reduceLE, Int.reduceNeg, Nat.reduceLeDiff, if_true, if_false, ↓reduceIte, forall_const, implies_true, reduceCtorEq, forall_eq_or_imp, forall_eq, ne_eq]) (by simp (maxSteps := 2000000) (contextual := true) only [↓ctl, evl, val, valP, own, app, wrt, tys, Tryz.ntmps60, Tryz.results60, ↓V_convert, ↓V_bytes, stdl, cond_true, cond_false, Nat.reduceEqDiff, Nat.reduceAdd, Nat.reduceMul, Nat.reduceSub, Nat.reduceLT, Int.reduceEq, Int.reduceLT, Int.reduceLE, Int.reduceNeg, Nat.reduceLeDiff, if_true, if_false, ↓reduceIte, forall_const, implies_true, reduceCtorEq, forall_eq_or_imp, forall_eq, ne_eq]) (by simp (maxSteps := 2000000) (contextual := true) only [↓ctl, evl, val, valP, own, app, wrt, tys, Tryz.ntmps60, Tryz.results60, ↓V_convert, ↓V_bytes, stdl, cond_true, cond_false, Nat.reduceEqDiff, Nat.reduceAdd, Nat.reduceMul, Nat.reduceSub, Nat.reduceLT, Int.reduceEq, Int.reduceLT, Int.reduceLE, Int.reduceNeg, Nat.reduceLeDiff, if_true, if_false, ↓reduceIte, forall_const, implies_true, reduceCtorEq, forall_eq_or_imp, forall_eq, ne_eq]) trivial ?_
  simp (maxSteps := 2000000) only [↓ctl, evl, val, valP, own, app, wrt, tys, Tryz.ntmps60, Tryz.results60, ↓V_convert, ↓V_bytes, stdl, cond_true, cond_false, Nat.reduceEqDiff, Nat.reduceAdd, Nat.reduceMul, Nat.reduceSub, Nat.reduceLT, Int.reduceEq, Int.reduceLT, Int.reduceLE, Int.reduceNeg, Nat.reduceLeDiff, if_true, if_false, ↓reduceIte, forall_const, implies_true, reduceCtorEq, forall_eq_or_imp, forall_eq, ne_eq]
  refine ⟨by omega, ?_⟩
  refine V_loopI mixed (ι := {i : Nat // i ≤ f.quotas.length}) (fun i => ⟨[(3, true, Sx (superHead f.tick ++ quotaBs f.quotas i.1)), (15, true, .rd 2 (f.quotas.map quotaRow)), (16, true, I f.quotas.length), (17, true, I i.1)], [], 0, 33⟩) (fun i => f.quotas.length - i.1)  ⟨0, by omega⟩ ?_ ?_ ?_
  · refine weakI ?_
    simp (maxSteps := 2000000) only [↓ctl, evl, val, valP, own, app, wrt, tys, Tryz.ntmps60, Tryz.results60, ↓V_convert, ↓V_bytes, stdl, cond_true, cond_false, Nat.reduceEqDiff, Nat.reduceAdd, Nat.reduceMul, Nat.reduceSub, Nat.reduceLT, Int.reduceEq, Int.reduceLT, Int.reduceLE, Int.reduceNeg, Nat.reduceLeDiff, if_true, if_false, ↓reduceIte, forall_const, implies_true, reduceCtorEq, forall_eq_or_imp, forall_eq, ne_eq]
    simp [superHead, quotaBs]
  · trivial
  rintro ⟨i, hi⟩
  have hbl := quotaBs_len f.quotas i
  have hhl : (superHead f.tick).length ≤ 8 := by unfold superHead; simp only [List.length_append, List.length_cons, List.length_nil]; omega
  by_cases hlt : i < f.quotas.length
  · obtain ⟨m1, m2⟩ := hk.quotas _ (show f.quotas.getD i default ∈ f.quotas by rw [getD_get _ i _ hlt]; exact List.getElem_mem hlt)
    have hst := quotaBs_succ hlt
    have q1 := putNum_len (f.quotas.getD i default).inodes 1
    have q2 := putNum_len (f.quotas.getD i default).blocks 1
    simp (maxSteps := 2000000) only [↓ctl, evl, val, valP, own, app, wrt, tys, Tryz.ntmps60, Tryz.results60, ↓V_convert, ↓V_bytes, stdl, cond_true, cond_false, Nat.reduceEqDiff, Nat.reduceAdd, Nat.reduceMul, Nat.reduceSub, Nat.reduceLT, Int.reduceEq, Int.reduceLT, Int.reduceLE, Int.reduceNeg, Nat.reduceLeDiff, if_true, if_false, ↓reduceIte, forall_const, implies_true, reduceCtorEq, forall_eq_or_imp, forall_eq, ne_eq, hlt, quotaRow_e]
    refine ⟨by kernel_rfl, ?_⟩
    refine V_callF mixed (cap := []) (fun _ => c_Put1 (f.quotas.getD i default).inodes m1) (by simp (maxSteps := 2000000) (contextual := true) only [↓ctl, evl, val, valP, own, app, wrt, tys, Tryz.ntmps60, Tryz.results60, ↓V_convert, ↓V_bytes, stdl, cond_true, cond_false, Nat.reduceEqDiff, Nat.reduceAdd, Nat.reduceMul, Nat.reduceSub, Nat.reduceLT, Int.reduceEq, Int.reduceLT, Int.reduceLE, Int.reduceNeg, Nat.reduceLeDiff, if_true, if_false, ↓reduceIte, forall_const, implies_true, reduceCtorEq, forall_eq_or_imp, forall_eq, ne_eq]) (by simp (maxSteps := 2000000) (contextual := true) only [↓ctl, evl, val, valP, own, app, wrt, tys, Tryz.ntmps60, Tryz.results60, ↓V_convert, ↓V_bytes, stdl, cond_true, cond_false, Nat.reduceEqDiff, Nat.reduceAdd, Nat.reduceMul, Nat.reduceSub, Nat.reduceLT, Int.reduceEq, Int.reduceLT, Int.reduceLE, Int.reduceNeg, Nat.reduceLeDiff, if_true, if_false, ↓reduceIte, forall_const, implies_true, reduceCtorEq, forall_eq_or_imp, forall_eq, ne_eq]) (by simp (maxSteps := 2000000) (contextual := true) only [↓ctl, evl, val, valP, own, app, wrt, tys, Tryz.ntmps60, Tryz.results60, ↓V_convert, ↓V_bytes, stdl, cond_true, cond_false, Nat.reduceEqDiff, Nat.reduceAdd, Nat.reduceMul, Nat.reduceSub, Nat.reduceLT, Int.reduceEq, Int.reduceLT, Int.reduceLE, Int.reduceNeg, Nat.reduceLeDiff, if_true, if_false, ↓reduceIte, forall_const, implies_true, reduceCtorEq, forall_eq_or_imp, forall_eq, ne_eq]) trivial ?_
    simp (maxSteps := 2000000) only [↓ctl, evl, val, valP, own, app, wrt, tys, Tryz.ntmps60, Tryz.results60, ↓V_convert, ↓V_bytes, stdl, cond_true, cond_false, Nat.reduceEqDiff, Nat.reduceAdd, Nat.reduceMul, Nat.reduceSub, Nat.reduceLT, Int.reduceEq, Int.reduceLT, Int.reduceLE, Int.reduceNeg, Nat.reduceLeDiff, if_true, if_false, ↓reduceIte, forall_const, implies_true, reduceCtorEq, forall_eq_or_imp, forall_eq, ne_eq]
    refine V_callF mixed (cap := []) (fun _ => c_Put1 (f.quotas.getD i default).blocks m2) (by simp (maxSteps := 2000000) (contextual := true) only [↓ctl, evl, val, valP, own, app, wrt, tys, Tryz.ntmps60, Tryz.results60, ↓V_convert, ↓V_bytes, stdl, cond_true, cond_false, Nat.reduceEqDiff, Nat.reduceAdd, Nat.reduceMul, Nat.reduceSub, Nat.reduceLT, Int.reduceEq, Int.reduceLT, Int.reduceLE, Int.reduceNeg, Nat.reduceLeDiff, if_true, if_false, ↓reduceIte, forall_const, implies_true, reduceCtorEq, forall_eq_or_imp, forall_eq, ne_eq]) (by simp (maxSteps := 2000000) (contextual := true) only [↓ctl, evl, val, valP, own, app, wrt, tys, Tryz.ntmps60, Tryz.results60, ↓V_convert, ↓V_bytes, stdl, cond_true, cond_false, Nat.reduceEqDiff, Nat.reduceAdd, Nat.reduceMul, Nat.reduceSub, Nat.reduceLT, Int.reduceEq, Int.reduceLT, Int.reduceLE, Int.reduceNeg, Nat.reduceLeDiff, if_true, if_false, ↓reduceIte, forall_const, implies_true, reduceCtorEq, forall_eq_or_imp, forall_eq, ne_eq]) (by simp (maxSteps := 2000000) (contextual := true) only [↓ctl, evl, val, valP, own, app, wrt, tys, Tryz.ntmps60, Tryz.results60, ↓V_convert, ↓V_bytes, stdl, cond_true, cond_false, Nat.reduceEqDiff, Nat.reduceAdd, Nat.reduceMul, Nat.reduceSub, Nat.reduceLT, Int.reduceEq, Int.reduceLT, Int.reduceLE, Int.reduceNeg, Nat.reduceLeDiff, if_true, if_false, ↓reduceIte, forall_const, implies_true, reduceCtorEq, forall_eq_or_imp, forall_eq, ne_eq]) trivial ?_
    simp (maxSteps := 2000000) only [↓ctl, evl, val, valP, own, app, wrt, tys, Tryz.ntmps60, Tryz.results60, ↓V_convert, ↓V_bytes, stdl, cond_true, cond_false, Nat.reduceEqDiff, Nat.reduceAdd, Nat.reduceMul, Nat.reduceSub, Nat.reduceLT, Int.reduceEq, Int.reduceLT, Int.reduceLE, Int.reduceNeg, Nat.reduceLeDiff, if_true, if_false, ↓reduceIte, forall_const, implies_true, reduceCtorEq, forall_eq_or_imp, forall_eq, ne_eq]
    refine ⟨by omega, by simp only [List.length_append]; omega, V_backI ⟨i + 1, by omega⟩ (by show _ - (i + 1) < _; omega) (weakI ?_)⟩
    simp (maxSteps := 2000000) only [↓ctl, evl, val, valP, own, app, wrt, tys, Tryz.ntmps60, Tryz.results60, ↓V_convert, ↓V_bytes, stdl, cond_true, cond_false, Nat.reduceEqDiff, Nat.reduceAdd, Nat.reduceMul, Nat.reduceSub, Nat.reduceLT, Int.reduceEq, Int.reduceLT, Int.reduceLE, Int.reduceNeg, Nat.reduceLeDiff, if_true, if_false, ↓reduceIte, forall_const, implies_true, reduceCtorEq, forall_eq_or_imp, forall_eq, ne_eq]
    rw [wrap_id (by omega) (by omega), hst]
    unfold quotaB
    simp only [List.append_assoc]
    exact ⟨trivial, rfl⟩
  · have : i = f.quotas.length := by omega
    subst this
    simp (maxSteps := 2000000) only [↓ctl, evl, val, valP, own, app, wrt, tys, Tryz.ntmps60, Tryz.results60, ↓V_convert, ↓V_bytes, stdl, cond_true, cond_false, Nat.reduceEqDiff, Nat.reduceAdd, Nat.reduceMul, Nat.reduceSub, Nat.reduceLT, Int.reduceEq, Int.reduceLT, Int.reduceLE, Int.reduceNeg, Nat.reduceLeDiff, if_true, if_false, ↓reduceIte, forall_const, implies_true, reduceCtorEq, forall_eq_or_imp, forall_eq, ne_eq, hlt]
    refine V_callF mixed (cap := []) (fun _ => c_PadI (superHead f.tick ++ quotaBs f.quotas f.quotas.length) 32 32 rfl (by simp only [List.length_append]; omega) (by omega)) (by simp (maxSteps := 2000000) (contextual := true) only [↓ctl, evl, val, valP, own, app, wrt, tys, Tryz.ntmps60, Tryz.results60, ↓V_convert, ↓V_bytes, stdl, cond_true, cond_false, Nat.reduceEqDiff, Nat.reduceAdd, Nat.reduceMul, Nat.reduceSub, Nat.reduceLT, Int.reduceEq, Int.reduceLT, Int.reduceLE, Int.reduceNeg, Nat.reduceLeDiff, if_true, if_false, ↓reduceIte, forall_const, implies_true, reduceCtorEq, forall_eq_or_imp, forall_eq, ne_eq]) (by simp (maxSteps := 2000000) (contextual := true) only [↓ctl, evl, val, valP, own, app, wrt, tys, Tryz.ntmps60, Tryz.results60, ↓V_convert, ↓V_bytes, stdl, cond_true, cond_false, Nat.reduceEqDiff, Nat.reduceAdd, Nat.reduceMul, Nat.reduceSub, Nat.reduceLT, Int.reduceEq, Int.reduceLT, Int.reduceLE, Int.reduceNeg, Nat.reduceLeDiff, if_true, if_false, ↓reduceIte, forall_const, implies_true, reduceCtorEq, forall_eq_or_imp, forall_eq, ne_eq]) (by simp (maxSteps := 2000000) (contextual := true) only [↓ctl, evl, val, valP, own, app, wrt, tys, Tryz.ntmps60, Tryz.results60, ↓V_convert, ↓V_bytes, stdl, cond_true, cond_false, Nat.reduceEqDiff, Nat.reduceAdd, Nat.reduceMul, Nat.reduceSub, Nat.reduceLT, Int.reduceEq, Int.reduceLT, Int.reduceLE, Int.reduceNeg, Nat.reduceLeDiff, if_true, if_false, ↓reduceIte, forall_const, implies_true, reduceCtorEq, forall_eq_or_imp, forall_eq, ne_eq]) trivial ?_
    simp (maxSteps := 2000000) only [↓ctl, evl, val, valP, own, app, wrt, tys, Tryz.ntmps60, Tryz.results60, ↓V_convert, ↓V_bytes, stdl, cond_true, cond_false, Nat.reduceEqDiff, Nat.reduceAdd, Nat.reduceMul, Nat.reduceSub, Nat.reduceLT, Int.reduceEq, Int.reduceLT, Int.reduceLE, Int.reduceNeg, Nat.reduceLeDiff, if_true, if_false, ↓reduceIte, forall_const, implies_true, reduceCtorEq, forall_eq_or_imp, forall_eq, ne_eq]
    try rfl
end Go.Proofs.YtobnbajakenbeaaGreat


/- Contracts: slices.Repeat of one text.  -/
set_option linter.all false
set_option maxRecDepth 10000
set_option maxHeartbeats 4000000
namespace Go.Proofs.YtobnbajakenbeaaGreat
open Go Go.Eng

theorem reads_tup2 {f : FuncId} {xs : List AV} {x y a b : Value} {P : Program} (he : Enters P f) (h2 : ∀ (us : List Value) m, Oks m xs us → us = [x, y]) (h : ∀ w : World, Calls P f #[x, y] w fun e w' => e = .returned (.tuple #[a, b]) ∧ w' = w) : Reads P f xs (.tup [.v a, .v b]) [] 0 := by
  refine ⟨he, fun r w us hr hx => ?_⟩
  have := h2 us _ hx; subst this
  refine (h w).mono fun e w' ⟨h1, h2⟩ => ?_
  subst h2
  refine ⟨_, roM r w', h1, RowKit.Below.refl _ _, ?_, ⟨fun l l' b h => by simp [roM] at h, fun l b h => by simp [roM] at h, fun b => rfl, fun b o hb => ⟨hr b o hb, fun l h => by simp [roM] at h⟩, fun k _ => ⟨rfl, fun _ _ => rfl⟩, fun k c h => by simp [look?] at h⟩, rfl, fun l b h => by simp [roM] at h⟩
  simp only [Ok, Oks]
  exact ⟨_, rfl, _, _, rfl, rfl, _, _, rfl, rfl, rfl⟩
theorem c_Mul (n : Nat) (hn : n < 1000) : Reads Go.Proofs.Tryz.prog 99 [.v (.int .u64 1), .v (.int .u64 n)] (.tup [.v (.int .u64 0), .v (.int .u64 n)]) [] 0 := by
  refine reads_tup2 (x := .int .u64 1) (y := .int .u64 n) Go.Proofs.Tryz.call99 (fun us m hx => ?_) (fun w => ?_)
  · simp only [Oks, ok_v] at hx
    obtain ⟨u, vs, rfl, rfl, u2, vs2, rfl, rfl, rfl⟩ := hx
    rfl
  · have := Go.Proofs.Tryz.bits_Mul 1 n (by omega) (by omega) w
    refine this.mono fun e w' ⟨h1, h2⟩ => ⟨?_, h2⟩
    rw [h1, Nat.one_mul, Nat.div_eq_of_lt (by omega), Nat.mod_eq_of_lt (by omega)]
    rfl
def rep (x : List UInt8) (n c : Nat) : List (List UInt8) := List.replicate n x ++ List.replicate (c - n) []
theorem rep_len (x : List UInt8) {n c : Nat} (h : n ≤ c) : (rep x n c).length = c := by simp [rep]; omega
theorem rep_copy (x : List UInt8) {n c : Nat} (h : n ≤ c) : (rep x n c).take n ++ (((rep x n c).take n).take (c - n) ++ (rep x n c).drop (n + min (c - n) n)) = rep x (n + min (c - n) n) c := by
  have e1 : (rep x n c).take n = List.replicate n x := by unfold rep; rw [List.take_left' (by simp)]
  have e2 : (rep x n c).drop (n + min (c - n) n) = List.replicate (c - n - min (c - n) n) [] := by
    unfold rep; rw [List.drop_append, List.drop_of_length_le (by simp), List.nil_append, List.length_replicate, List.drop_replicate]; congr 1; omega
  rw [e1, e2, List.take_replicate, ← List.append_assoc, List.replicate_append_replicate]
  unfold rep
  congr 2; omega
theorem c_Repeat (x : List UInt8) (c : Nat) (h1 : 1 ≤ c) (hc : c ≤ 999) : Reads Go.Proofs.Tryz.prog 61 [.rd 1 [[.v (str x)]], I c] (.sl 0 1 0 c) [(0, .row 9 1 ((List.replicate c x).map strRow))] 1 := by
  refine reads_of_V mixed Go.Proofs.Tryz.call61 Go.Proofs.Tryz.func61 rfl (by rw [Go.Proofs.Tryz.ntmps61]; simp) ?_
  have n1 : ¬ (c : Int) < 0 := by omega
  have n2 : ¬ (c : Int) > 9223372036854775807 := by omega
  have w1 : IntKind.u64.wrap 1 = 1 := by decide
  have w2 : IntKind.u64.wrap (c : Int) = c := wrap_u64 (by omega) (by omega)
  have w3 : IntKind.i64.wrap (c : Int) = c := wrap_id (by omega) (by omega)
  have w0 : IntKind.u64.wrap ((1 : Nat) : Int) = 1 := by decide
  simp (maxSteps := 2000000) only [↓ctl, evl, val, valP, own, app, ↓ctlM, wrt, tys, Tryz.ntmps61, Tryz.results61, ↓V_convert, ↓V_bytes, stdl, cond_true, cond_false, Nat.reduceEqDiff, Nat.reduceAdd, Nat.reduceMul, Nat.reduceSub, Nat.reduceLT, Int.reduceEq, Int.reduceLT, Int.reduceLE, Int.reduceNeg, Nat.reduceLeDiff, if_true, if_false, ↓reduceIte, forall_const, implies_true, reduceCtorEq, forall_eq_or_imp, forall_eq, ne_eq, n1, w1, w2]
  refine V_callR mixed (cap := []) (c_Mul c (by omega)) (by simp (maxSteps := 2000000) only [↓ctl, evl, val, valP, own, app, ↓ctlM, wrt, tys, Tryz.ntmps61, Tryz.results61, ↓V_convert, ↓V_bytes, stdl, cond_true, cond_false, Nat.reduceEqDiff, Nat.reduceAdd, Nat.reduceMul, Nat.reduceSub, Nat.reduceLT, Int.reduceEq, Int.reduceLT, Int.reduceLE, Int.reduceNeg, Nat.reduceLeDiff, if_true, if_false, ↓reduceIte, forall_const, implies_true, reduceCtorEq, forall_eq_or_imp, forall_eq, ne_eq, w0, w1, w2]) (by simp (maxSteps := 2000000) only [↓ctl, evl, val, valP, own, app, ↓ctlM, wrt, tys, Tryz.ntmps61, Tryz.results61, ↓V_convert, ↓V_bytes, stdl, cond_true, cond_false, Nat.reduceEqDiff, Nat.reduceAdd, Nat.reduceMul, Nat.reduceSub, Nat.reduceLT, Int.reduceEq, Int.reduceLT, Int.reduceLE, Int.reduceNeg, Nat.reduceLeDiff, if_true, if_false, ↓reduceIte, forall_const, implies_true, reduceCtorEq, forall_eq_or_imp, forall_eq, ne_eq]) (by simp (maxSteps := 2000000) only [↓ctl, evl, val, valP, own, app, ↓ctlM, wrt, tys, Tryz.ntmps61, Tryz.results61, ↓V_convert, ↓V_bytes, stdl, cond_true, cond_false, Nat.reduceEqDiff, Nat.reduceAdd, Nat.reduceMul, Nat.reduceSub, Nat.reduceLT, Int.reduceEq, Int.reduceLT, Int.reduceLE, Int.reduceNeg, Nat.reduceLeDiff, if_true, if_false, ↓reduceIte, forall_const, implies_true, reduceCtorEq, forall_eq_or_imp, forall_eq, ne_eq]) trivial ?_
  simp (maxSteps := 2000000) only [↓ctl, evl, val, valP, own, app, ↓ctlM, wrt, tys, Tryz.ntmps61, Tryz.results61, ↓V_convert, ↓V_bytes, stdl, cond_true, cond_false, Nat.reduceEqDiff, Nat.reduceAdd, Nat.reduceMul, Nat.reduceSub, Nat.reduceLT, Int.reduceEq, Int.reduceLT, Int.reduceLE, Int.reduceNeg, Nat.reduceLeDiff, if_true, if_false, ↓reduceIte, forall_const, implies_true, reduceCtorEq, forall_eq_or_imp, forall_eq, ne_eq, n2, w3]
  refine ⟨fun h => absurd h (by decide), fun _ => ⟨⟨Nat.le_refl _, by omega⟩, ⟨fun r hr => by rw [List.eq_of_mem_replicate hr, flatRow_str, flatRow_nil]; trivial, by simp⟩, ?_⟩⟩
  refine V_loopI mixed (ι := {i : Nat // 1 ≤ i ∧ i ≤ c}) (fun i => ⟨[(7, true, .sl 0 1 0 c), (8, true, I i.1)], [(0, .row 9 1 ((rep x i.1 c).map strRow))], 1, 48⟩) (fun i => c - i.1)  ⟨1, by omega, h1⟩ ?_ ?_ ?_
  · refine weakI ?_
    simp (maxSteps := 2000000) only [↓ctl, evl, val, valP, own, app, ↓ctlM, wrt, tys, Tryz.ntmps61, Tryz.results61, ↓V_convert, ↓V_bytes, stdl, cond_true, cond_false, Nat.reduceEqDiff, Nat.reduceAdd, Nat.reduceMul, Nat.reduceSub, Nat.reduceLT, Int.reduceEq, Int.reduceLT, Int.reduceLE, Int.reduceNeg, Nat.reduceLeDiff, if_true, if_false, ↓reduceIte, forall_const, implies_true, reduceCtorEq, forall_eq_or_imp, forall_eq, ne_eq]
    have e1 : min c 1 = 1 := by omega
    have e2 : List.take c [[Cell.v (str x)]] = [[Cell.v (str x)]] := List.take_of_length_le (by simpa using h1)
    rw [e1, e2]
    refine ⟨rfl, ?_⟩
    unfold rep strRow
    simp
  · trivial
  rintro ⟨n, hn1, hnc⟩
  have hrl := rep_len x hnc
  by_cases hlt : n < c
  · have f1 : ((c - n : Nat) : Int) = c - n := by omega
    simp (maxSteps := 2000000) only [↓ctl, evl, val, valP, own, app, ↓ctlM, wrt, tys, Tryz.ntmps61, Tryz.results61, ↓V_convert, ↓V_bytes, stdl, cond_true, cond_false, Nat.reduceEqDiff, Nat.reduceAdd, Nat.reduceMul, Nat.reduceSub, Nat.reduceLT, Int.reduceEq, Int.reduceLT, Int.reduceLE, Int.reduceNeg, Nat.reduceLeDiff, if_true, if_false, ↓reduceIte, forall_const, implies_true, reduceCtorEq, forall_eq_or_imp, forall_eq, ne_eq, hlt]
    refine VM_start mixed 7 (by kernel_rfl) (by kernel_rfl) trivial ?_
    simp (maxSteps := 2000000) only [↓ctl, evl, val, valP, own, app, ↓ctlM, wrt, tys, Tryz.ntmps61, Tryz.results61, ↓V_convert, ↓V_bytes, stdl, cond_true, cond_false, Nat.reduceEqDiff, Nat.reduceAdd, Nat.reduceMul, Nat.reduceSub, Nat.reduceLT, Int.reduceEq, Int.reduceLT, Int.reduceLE, Int.reduceNeg, Nat.reduceLeDiff, if_true, if_false, ↓reduceIte, forall_const, implies_true, reduceCtorEq, forall_eq_or_imp, forall_eq, ne_eq, hlt]
    have tl : (List.take (n - 0) (List.map strRow (rep x n c))).length = n := by simp [hrl]; omega
    refine ⟨⟨hnc, Nat.le_refl _⟩, ⟨by omega, hnc⟩, ⟨by rw [tl]; omega, fun r hr => (of_eq_true (flat_strs _)) r (List.mem_of_mem_take hr), by omega⟩, V_backI ⟨n + min (c - n) n, by omega, by omega⟩ (by show c - (n + min (c - n) n) < c - n; omega) (weakI ?_)⟩
    simp (maxSteps := 2000000) only [↓ctl, evl, val, valP, own, app, ↓ctlM, wrt, tys, Tryz.ntmps61, Tryz.results61, ↓V_convert, ↓V_bytes, stdl, cond_true, cond_false, Nat.reduceEqDiff, Nat.reduceAdd, Nat.reduceMul, Nat.reduceSub, Nat.reduceLT, Int.reduceEq, Int.reduceLT, Int.reduceLE, Int.reduceNeg, Nat.reduceLeDiff, if_true, if_false, ↓reduceIte, forall_const, implies_true, reduceCtorEq, forall_eq_or_imp, forall_eq, ne_eq]
    rw [tl, wrap_id (by omega) (by omega)]
    refine ⟨by congr 3 <;> omega, ?_⟩
    rw [Nat.sub_zero, ← List.map_take, ← List.map_take, ← List.map_drop, ← List.map_append, ← List.map_append, rep_copy x hnc]
  · have : n = c := by omega
    subst this
    simp (maxSteps := 2000000) only [↓ctl, evl, val, valP, own, app, ↓ctlM, wrt, tys, Tryz.ntmps61, Tryz.results61, ↓V_convert, ↓V_bytes, stdl, cond_true, cond_false, Nat.reduceEqDiff, Nat.reduceAdd, Nat.reduceMul, Nat.reduceSub, Nat.reduceLT, Int.reduceEq, Int.reduceLT, Int.reduceLE, Int.reduceNeg, Nat.reduceLeDiff, if_true, if_false, ↓reduceIte, forall_const, implies_true, reduceCtorEq, forall_eq_or_imp, forall_eq, ne_eq, hlt]
    unfold rep
    simp
end Go.Proofs.YtobnbajakenbeaaGreat


/- Contracts: file systems as sectors.  -/
set_option linter.all false
set_option maxRecDepth 10000
set_option maxHeartbeats 4000000
namespace Go.Proofs.YtobnbajakenbeaaGreat
open Go Go.Eng

def z32 : List UInt8 := List.replicate 32 0
def packNs (l : List Inode) (i : Nat) : List (List UInt8) := ((l.take i).map fun n => cuts 32 (packInode n)).flatten
def packed (f : FS) : List (List UInt8) := (superB f :: List.replicate 69 z32) ++ packNs f.inodes f.inodes.length ++ f.data
theorem packNs_succ {l : List Inode} {i : Nat} (h : i < l.length) : packNs l (i + 1) = packNs l i ++ cuts 32 (packInode (l.getD i default)) := by
  unfold packNs; rw [List.take_succ, List.map_append, List.flatten_append, getD_get l i default h, List.getElem?_eq_getElem h]; simp
theorem cuts_len (n : Nat) : ∀ (k : Nat) (s : List UInt8), s.length ≤ k → (cuts n s).length ≤ s.length
  | 0, s, h => by
    have : s = [] := List.eq_nil_of_length_eq_zero (by omega)
    subst this; rw [cuts_nil]; exact Nat.le_refl _
  | k + 1, s, h => by
    by_cases hs : s.length = 0 ∨ n = 0
    · unfold cuts; rw [dif_pos hs]; simp
    · rw [cuts_step (by omega) (by omega), List.length_cons]
      have := cuts_len n k (s.drop n) (by rw [List.length_drop]; omega)
      rw [List.length_drop] at this
      omega
theorem packHead_len (n : Inode) : (packHead n).length ≤ 13 := by
  have := putNum_len n.kind 1
  have := putNum_len n.mode 2
  have := putNum_len n.uid 1
  have := putNum_len n.gid 1
  have := putNum_len n.links 2
  have := putNum_len n.size 2
  have := putNum_len n.tick 4
  unfold packHead; simp only [List.length_append]; omega
theorem packInode_len (n : Inode) : (packInode n).length ≤ 200 := by
  have h1 := packHead_len n
  have h2 := packBlks_len n.blocks 8
  have h3 := packAcl_len n.acl
  have h4 := packAcl_len n.dflt
  unfold packInode padTo
  split
  · simp only [List.length_append, List.length_replicate]; omega
  · simp
theorem packNs_len (l : List Inode) : ∀ i, (packNs l i).length ≤ 200 * i
  | 0 => by simp [packNs]
  | i + 1 => by
    have := packNs_len l i
    by_cases h : i < l.length
    · rw [packNs_succ h, List.length_append]
      have := cuts_len 32 _ _ (Nat.le_refl (packInode (l.getD i default)).length)
      have := packInode_len (l.getD i default)
      omega
    · have : packNs l (i + 1) = packNs l i := by unfold packNs; rw [List.take_of_length_le (by omega), List.take_of_length_le (by omega)]
      rw [this]; omega
theorem take_all_map {α : Type} (g : α → List Cell) (a : List α) (b : List (List Cell)) {n : Nat} (h : n = a.length) : List.take n (a.map g) ++ b = a.map g ++ b := by
  rw [h, List.take_of_length_le (by simp)]
def frontS (f : FS) (i : Nat) : List (List UInt8) := superB f :: List.replicate i z32
def midS (f : FS) (i : Nat) : List (List UInt8) := frontS f 69 ++ packNs f.inodes i
theorem midS_len (f : FS) (i : Nat) : (midS f i).length ≤ 70 + 200 * i := by
  have := packNs_len f.inodes i
  unfold midS frontS; simp only [List.length_append, List.length_cons, List.length_replicate]; omega
theorem frontS_succ (f : FS) (i : Nat) : frontS f (i + 1) = frontS f i ++ [z32] := by unfold frontS; rw [List.replicate_succ', List.cons_append]
theorem midS_succ {f : FS} {i : Nat} (h : i < f.inodes.length) : midS f (i + 1) = midS f i ++ cuts 32 (packInode (f.inodes.getD i default)) := by unfold midS; rw [packNs_succ h, List.append_assoc]
theorem packed_mid (f : FS) : packed f = midS f f.inodes.length ++ f.data := rfl
theorem take_map (l : List (List UInt8)) : List.take l.length (l.map strRow) = l.map strRow := List.take_of_length_le (by simp)
theorem d_Cut32 (s : List UInt8) (hs : s.length ≤ 1048576) : Reads Go.Proofs.Tryz.prog 55 [Sx s, I 32] (.sl 0 1 0 (cuts 32 s).length) [(0, .row 9 1 ((cuts 32 s).map strRow))] 1 := d_CutAll s 32 hs (by omega)
theorem c_Cut32 (s : List UInt8) (hs : s.length ≤ 1048576) : Reads Go.Proofs.Tryz.prog 63 [Sx s, I 32] (.sl 0 1 0 (cuts 32 s).length) [(0, .row 9 1 ((cuts 32 s).map strRow))] 1 := c_CutAll s 32 hs (by omega)
theorem d_Pack0 : Gives Go.Proofs.Tryz.prog 54 [.v (str []), I 32] (str z32) := d_PadTo [] 32 (by simp) (by omega)
theorem d_l18Pack (f : FS) (hk : f.ok) (hi : f.ints) (hq : f.quotas.length = 4) : Reads Go.Proofs.Tryz.prog 23 [fsAV f] (.sl 1 1 0 (packed f).length) [(1, .row 9 1 ((packed f).map strRow))] 2 := by
  refine reads_of_V mixed Go.Proofs.Tryz.call23 Go.Proofs.Tryz.func23 rfl (by rw [Go.Proofs.Tryz.ntmps23]; simp) ?_
  simp (maxSteps := 2000000) only [↓ctl, evl, val, valP, own, app, wrt, tys, Tryz.ntmps23, Tryz.results23, ↓V_convert, ↓V_bytes, stdl, cond_true, cond_false, Nat.reduceEqDiff, Nat.reduceAdd, Nat.reduceMul, Nat.reduceSub, Nat.reduceLT, Int.reduceEq, Int.reduceLT, Int.reduceLE, Int.reduceNeg, Nat.reduceLeDiff, if_true, if_false, ↓reduceIte, forall_const, implies_true, reduceCtorEq, forall_eq_or_imp, forall_eq, ne_eq, fsAV]
  refine V_callF mixed (cap := []) (fun _ => d_Super f hi hq) (by simp (maxSteps := 2000000) (contextual := true) only [↓ctl, evl, val, valP, own, app, wrt, tys, Tryz.ntmps23, Tryz.results23, ↓V_convert, ↓V_bytes, stdl, cond_true, cond_false, Nat.reduceEqDiff, Nat.reduceAdd, Nat.reduceMul, Nat.reduceSub, Nat.reduceLT, Int.reduceEq, Int.reduceLT, Int.reduceLE, Int.reduceNeg, Nat.reduceLeDiff, if_true, if_false, ↓reduceIte, forall_const, implies_true, reduceCtorEq, forall_eq_or_imp, forall_eq, ne_eq, fsAV]) (by simp (maxSteps := 2000000) (contextual := true) only [↓ctl, evl, val, valP, own, app, wrt, tys, Tryz.ntmps23, Tryz.results23, ↓V_convert, ↓V_bytes, stdl, cond_true, cond_false, Nat.reduceEqDiff, Nat.reduceAdd, Nat.reduceMul, Nat.reduceSub, Nat.reduceLT, Int.reduceEq, Int.reduceLT, Int.reduceLE, Int.reduceNeg, Nat.reduceLeDiff, if_true, if_false, ↓reduceIte, forall_const, implies_true, reduceCtorEq, forall_eq_or_imp, forall_eq, ne_eq]) (by simp (maxSteps := 2000000) (contextual := true) only [↓ctl, evl, val, valP, own, app, wrt, tys, Tryz.ntmps23, Tryz.results23, ↓V_convert, ↓V_bytes, stdl, cond_true, cond_false, Nat.reduceEqDiff, Nat.reduceAdd, Nat.reduceMul, Nat.reduceSub, Nat.reduceLT, Int.reduceEq, Int.reduceLT, Int.reduceLE, Int.reduceNeg, Nat.reduceLeDiff, if_true, if_false, ↓reduceIte, forall_const, implies_true, reduceCtorEq, forall_eq_or_imp, forall_eq, ne_eq]) trivial ?_
  simp (maxSteps := 2000000) only [↓ctl, evl, val, valP, own, app, wrt, tys, Tryz.ntmps23, Tryz.results23, ↓V_convert, ↓V_bytes, stdl, cond_true, cond_false, Nat.reduceEqDiff, Nat.reduceAdd, Nat.reduceMul, Nat.reduceSub, Nat.reduceLT, Int.reduceEq, Int.reduceLT, Int.reduceLE, Int.reduceNeg, Nat.reduceLeDiff, if_true, if_false, ↓reduceIte, forall_const, implies_true, reduceCtorEq, forall_eq_or_imp, forall_eq, ne_eq]
  refine V_loopI mixed (ι := {i : Nat // i ≤ 69}) (fun i => ⟨[(1, true, .ptr 0 0 0 0), (3, true, .sl 1 1 0 (frontS f i.1).length)], [(1, .row 9 1 ((frontS f i.1).map strRow)), (0, .box 35 [I f.tick, .rd 2 (f.quotas.map quotaRow), .rd 10 (f.inodes.map inodeRow), .rd 1 (f.data.map strRow)])], 2, 33⟩) (fun i => 69 - i.1)  ⟨0, by omega⟩ ?_ ?_ ?_
  · refine weakI ?_
    simp (maxSteps := 2000000) only [↓ctl, evl, val, valP, own, app, wrt, tys, Tryz.ntmps23, Tryz.results23, ↓V_convert, ↓V_bytes, stdl, cond_true, cond_false, Nat.reduceEqDiff, Nat.reduceAdd, Nat.reduceMul, Nat.reduceSub, Nat.reduceLT, Int.reduceEq, Int.reduceLT, Int.reduceLE, Int.reduceNeg, Nat.reduceLeDiff, if_true, if_false, ↓reduceIte, forall_const, implies_true, reduceCtorEq, forall_eq_or_imp, forall_eq, ne_eq]
    try exact ⟨rfl, rfl⟩
  · trivial
  · rintro ⟨i, hi69⟩
    have hfl : (frontS f i).length = i + 1 := by simp [frontS]
    by_cases hlt : i < 69
    · have hlt' : ((i + 1 : Nat) : Int) < 70 := by omega
      simp (maxSteps := 2000000) only [↓ctl, evl, val, valP, own, app, wrt, tys, Tryz.ntmps23, Tryz.results23, ↓V_convert, ↓V_bytes, stdl, cond_true, cond_false, Nat.reduceEqDiff, Nat.reduceAdd, Nat.reduceMul, Nat.reduceSub, Nat.reduceLT, Int.reduceEq, Int.reduceLT, Int.reduceLE, Int.reduceNeg, Nat.reduceLeDiff, if_true, if_false, ↓reduceIte, forall_const, implies_true, reduceCtorEq, forall_eq_or_imp, forall_eq, ne_eq, hfl, hlt']
      refine V_callF mixed (cap := []) (fun _ => d_Pack0) (by simp (maxSteps := 2000000) (contextual := true) only [↓ctl, evl, val, valP, own, app, wrt, tys, Tryz.ntmps23, Tryz.results23, ↓V_convert, ↓V_bytes, stdl, cond_true, cond_false, Nat.reduceEqDiff, Nat.reduceAdd, Nat.reduceMul, Nat.reduceSub, Nat.reduceLT, Int.reduceEq, Int.reduceLT, Int.reduceLE, Int.reduceNeg, Nat.reduceLeDiff, if_true, if_false, ↓reduceIte, forall_const, implies_true, reduceCtorEq, forall_eq_or_imp, forall_eq, ne_eq]) (by simp (maxSteps := 2000000) (contextual := true) only [↓ctl, evl, val, valP, own, app, wrt, tys, Tryz.ntmps23, Tryz.results23, ↓V_convert, ↓V_bytes, stdl, cond_true, cond_false, Nat.reduceEqDiff, Nat.reduceAdd, Nat.reduceMul, Nat.reduceSub, Nat.reduceLT, Int.reduceEq, Int.reduceLT, Int.reduceLE, Int.reduceNeg, Nat.reduceLeDiff, if_true, if_false, ↓reduceIte, forall_const, implies_true, reduceCtorEq, forall_eq_or_imp, forall_eq, ne_eq]) (by simp (maxSteps := 2000000) (contextual := true) only [↓ctl, evl, val, valP, own, app, wrt, tys, Tryz.ntmps23, Tryz.results23, ↓V_convert, ↓V_bytes, stdl, cond_true, cond_false, Nat.reduceEqDiff, Nat.reduceAdd, Nat.reduceMul, Nat.reduceSub, Nat.reduceLT, Int.reduceEq, Int.reduceLT, Int.reduceLE, Int.reduceNeg, Nat.reduceLeDiff, if_true, if_false, ↓reduceIte, forall_const, implies_true, reduceCtorEq, forall_eq_or_imp, forall_eq, ne_eq]) trivial ?_
      simp (maxSteps := 2000000) only [↓ctl, evl, val, valP, own, app, wrt, tys, Tryz.ntmps23, Tryz.results23, ↓V_convert, ↓V_bytes, stdl, cond_true, cond_false, Nat.reduceEqDiff, Nat.reduceAdd, Nat.reduceMul, Nat.reduceSub, Nat.reduceLT, Int.reduceEq, Int.reduceLT, Int.reduceLE, Int.reduceNeg, Nat.reduceLeDiff, if_true, if_false, ↓reduceIte, forall_const, implies_true, reduceCtorEq, forall_eq_or_imp, forall_eq, ne_eq, hfl]
      refine ⟨⟨by omega, Nat.le_refl _⟩, V_backI ⟨i + 1, by omega⟩ (by show 69 - (i + 1) < _; omega) (weakI ?_)⟩
      simp (maxSteps := 2000000) only [↓ctl, evl, val, valP, own, app, wrt, tys, Tryz.ntmps23, Tryz.results23, ↓V_convert, ↓V_bytes, stdl, cond_true, cond_false, Nat.reduceEqDiff, Nat.reduceAdd, Nat.reduceMul, Nat.reduceSub, Nat.reduceLT, Int.reduceEq, Int.reduceLT, Int.reduceLE, Int.reduceNeg, Nat.reduceLeDiff, if_true, if_false, ↓reduceIte, forall_const, implies_true, reduceCtorEq, forall_eq_or_imp, forall_eq, ne_eq]
      have hfs := frontS_succ f i
      have hfl2 : (frontS f (i + 1)).length = i + 1 + 1 := by simp [frontS]
      refine ⟨by rw [hfl2], ?_⟩
      rw [hfs, List.map_append, ← hfl, take_map]
      rfl
    · have : i = 69 := by omega
      subst this
      have hlt' : ¬ (((69 + 1 : Nat) : Int) < 70) := by omega
      simp (maxSteps := 2000000) only [↓ctl, evl, val, valP, own, app, wrt, tys, Tryz.ntmps23, Tryz.results23, ↓V_convert, ↓V_bytes, stdl, cond_true, cond_false, Nat.reduceEqDiff, Nat.reduceAdd, Nat.reduceMul, Nat.reduceSub, Nat.reduceLT, Int.reduceEq, Int.reduceLT, Int.reduceLE, Int.reduceNeg, Nat.reduceLeDiff, if_true, if_false, ↓reduceIte, forall_const, implies_true, reduceCtorEq, forall_eq_or_imp, forall_eq, ne_eq, hfl, hlt']
      refine V_loopI mixed (ι := {i : Nat // i ≤ f.inodes.length}) (fun i => ⟨[(1, true, .ptr 0 0 0 0), (3, true, .sl 1 1 0 (midS f i.1).length), (17, true, .rd 10 (f.inodes.map inodeRow)), (18, true, I f.inodes.length), (19, true, I i.1)], [(1, .row 9 1 ((midS f i.1).map strRow)), (0, .box 35 [I f.tick, .rd 2 (f.quotas.map quotaRow), .rd 10 (f.inodes.map inodeRow), .rd 1 (f.data.map strRow)])], 2, 33⟩) (fun i => f.inodes.length - i.1)  ⟨0, by omega⟩ ?_ ?_ ?_
      · refine weakI ?_
        simp (maxSteps := 2000000) only [↓ctl, evl, val, valP, own, app, wrt, tys, Tryz.ntmps23, Tryz.results23, ↓V_convert, ↓V_bytes, stdl, cond_true, cond_false, Nat.reduceEqDiff, Nat.reduceAdd, Nat.reduceMul, Nat.reduceSub, Nat.reduceLT, Int.reduceEq, Int.reduceLT, Int.reduceLE, Int.reduceNeg, Nat.reduceLeDiff, if_true, if_false, ↓reduceIte, forall_const, implies_true, reduceCtorEq, forall_eq_or_imp, forall_eq, ne_eq]
        simp [midS, packNs, frontS]
      · trivial
      rintro ⟨i, hi⟩
      have hml := midS_len f i
      have hin := hk.inodes
      by_cases hlt : i < f.inodes.length
      · obtain ⟨m1, m2⟩ := hk.nodes _ (show f.inodes.getD i default ∈ f.inodes by rw [getD_get _ i _ hlt]; exact List.getElem_mem hlt)
        simp (maxSteps := 2000000) only [↓ctl, evl, val, valP, own, app, wrt, tys, Tryz.ntmps23, Tryz.results23, ↓V_convert, ↓V_bytes, stdl, cond_true, cond_false, Nat.reduceEqDiff, Nat.reduceAdd, Nat.reduceMul, Nat.reduceSub, Nat.reduceLT, Int.reduceEq, Int.reduceLT, Int.reduceLE, Int.reduceNeg, Nat.reduceLeDiff, if_true, if_false, ↓reduceIte, forall_const, implies_true, reduceCtorEq, forall_eq_or_imp, forall_eq, ne_eq, hlt, inodeRow_e, ints_map, acls_map]
        refine V_callF mixed (cap := []) (fun _ => d_PackInode (f.inodes.getD i default) m1.fits m2) (by simp (maxSteps := 2000000) only [↓ctl, evl, val, valP, own, app, wrt, tys, Tryz.ntmps23, Tryz.results23, ↓V_convert, ↓V_bytes, stdl, cond_true, cond_false, Nat.reduceEqDiff, Nat.reduceAdd, Nat.reduceMul, Nat.reduceSub, Nat.reduceLT, Int.reduceEq, Int.reduceLT, Int.reduceLE, Int.reduceNeg, Nat.reduceLeDiff, if_true, if_false, ↓reduceIte, forall_const, implies_true, reduceCtorEq, forall_eq_or_imp, forall_eq, ne_eq, inodeAV, ints_map, acls_map]) (by simp (maxSteps := 2000000) only [↓ctl, evl, val, valP, own, app, wrt, tys, Tryz.ntmps23, Tryz.results23, ↓V_convert, ↓V_bytes, stdl, cond_true, cond_false, Nat.reduceEqDiff, Nat.reduceAdd, Nat.reduceMul, Nat.reduceSub, Nat.reduceLT, Int.reduceEq, Int.reduceLT, Int.reduceLE, Int.reduceNeg, Nat.reduceLeDiff, if_true, if_false, ↓reduceIte, forall_const, implies_true, reduceCtorEq, forall_eq_or_imp, forall_eq, ne_eq]) (by simp (maxSteps := 2000000) only [↓ctl, evl, val, valP, own, app, wrt, tys, Tryz.ntmps23, Tryz.results23, ↓V_convert, ↓V_bytes, stdl, cond_true, cond_false, Nat.reduceEqDiff, Nat.reduceAdd, Nat.reduceMul, Nat.reduceSub, Nat.reduceLT, Int.reduceEq, Int.reduceLT, Int.reduceLE, Int.reduceNeg, Nat.reduceLeDiff, if_true, if_false, ↓reduceIte, forall_const, implies_true, reduceCtorEq, forall_eq_or_imp, forall_eq, ne_eq]) trivial ?_
        simp (maxSteps := 2000000) only [↓ctl, evl, val, valP, own, app, wrt, tys, Tryz.ntmps23, Tryz.results23, ↓V_convert, ↓V_bytes, stdl, cond_true, cond_false, Nat.reduceEqDiff, Nat.reduceAdd, Nat.reduceMul, Nat.reduceSub, Nat.reduceLT, Int.reduceEq, Int.reduceLT, Int.reduceLE, Int.reduceNeg, Nat.reduceLeDiff, if_true, if_false, ↓reduceIte, forall_const, implies_true, reduceCtorEq, forall_eq_or_imp, forall_eq, ne_eq]
        have hpl := packInode_len (f.inodes.getD i default)
        have hcl := cuts_len 32 _ _ (Nat.le_refl (packInode (f.inodes.getD i default)).length)
        refine V_callR mixed (cap := []) (d_Cut32 (packInode (f.inodes.getD i default)) (by omega)) (by simp (maxSteps := 2000000) only [↓ctl, evl, val, valP, own, app, wrt, tys, Tryz.ntmps23, Tryz.results23, ↓V_convert, ↓V_bytes, stdl, cond_true, cond_false, Nat.reduceEqDiff, Nat.reduceAdd, Nat.reduceMul, Nat.reduceSub, Nat.reduceLT, Int.reduceEq, Int.reduceLT, Int.reduceLE, Int.reduceNeg, Nat.reduceLeDiff, if_true, if_false, ↓reduceIte, forall_const, implies_true, reduceCtorEq, forall_eq_or_imp, forall_eq, ne_eq]) (by simp (maxSteps := 2000000) only [↓ctl, evl, val, valP, own, app, wrt, tys, Tryz.ntmps23, Tryz.results23, ↓V_convert, ↓V_bytes, stdl, cond_true, cond_false, Nat.reduceEqDiff, Nat.reduceAdd, Nat.reduceMul, Nat.reduceSub, Nat.reduceLT, Int.reduceEq, Int.reduceLT, Int.reduceLE, Int.reduceNeg, Nat.reduceLeDiff, if_true, if_false, ↓reduceIte, forall_const, implies_true, reduceCtorEq, forall_eq_or_imp, forall_eq, ne_eq]) (by simp (maxSteps := 2000000) only [↓ctl, evl, val, valP, own, app, wrt, tys, Tryz.ntmps23, Tryz.results23, ↓V_convert, ↓V_bytes, stdl, cond_true, cond_false, Nat.reduceEqDiff, Nat.reduceAdd, Nat.reduceMul, Nat.reduceSub, Nat.reduceLT, Int.reduceEq, Int.reduceLT, Int.reduceLE, Int.reduceNeg, Nat.reduceLeDiff, if_true, if_false, ↓reduceIte, forall_const, implies_true, reduceCtorEq, forall_eq_or_imp, forall_eq, ne_eq]) trivial ?_
        simp (maxSteps := 2000000) only [↓ctl, evl, val, valP, own, app, wrt, tys, Tryz.ntmps23, Tryz.results23, ↓V_convert, ↓V_bytes, stdl, cond_true, cond_false, Nat.reduceEqDiff, Nat.reduceAdd, Nat.reduceMul, Nat.reduceSub, Nat.reduceLT, Int.reduceEq, Int.reduceLT, Int.reduceLE, Int.reduceNeg, Nat.reduceLeDiff, if_true, if_false, ↓reduceIte, forall_const, implies_true, reduceCtorEq, forall_eq_or_imp, forall_eq, ne_eq]
        rw [take_map, take_map]
        refine ⟨⟨⟨by simp, of_eq_true (flat_strs _), by omega⟩, Nat.le_refl _⟩, V_backI ⟨i + 1, by omega⟩ (by show _ - (i + 1) < _; omega) (weakI ?_)⟩
        simp (maxSteps := 2000000) only [↓ctl, evl, val, valP, own, app, wrt, tys, Tryz.ntmps23, Tryz.results23, ↓V_convert, ↓V_bytes, stdl, cond_true, cond_false, Nat.reduceEqDiff, Nat.reduceAdd, Nat.reduceMul, Nat.reduceSub, Nat.reduceLT, Int.reduceEq, Int.reduceLT, Int.reduceLE, Int.reduceNeg, Nat.reduceLeDiff, if_true, if_false, ↓reduceIte, forall_const, implies_true, reduceCtorEq, forall_eq_or_imp, forall_eq, ne_eq]
        rw [wrap_id (by omega) (by omega), midS_succ hlt, List.length_append, List.map_append]
        exact ⟨⟨rfl, rfl⟩, rfl⟩
      · have : i = f.inodes.length := by omega
        subst this
        have hdl := hk.data
        simp (maxSteps := 2000000) only [↓ctl, evl, val, valP, own, app, wrt, tys, Tryz.ntmps23, Tryz.results23, ↓V_convert, ↓V_bytes, stdl, cond_true, cond_false, Nat.reduceEqDiff, Nat.reduceAdd, Nat.reduceMul, Nat.reduceSub, Nat.reduceLT, Int.reduceEq, Int.reduceLT, Int.reduceLE, Int.reduceNeg, Nat.reduceLeDiff, if_true, if_false, ↓reduceIte, forall_const, implies_true, reduceCtorEq, forall_eq_or_imp, forall_eq, ne_eq, hlt]
        rw [take_map, packed_mid, List.length_append, List.map_append]
        refine ⟨⟨by omega, Nat.le_refl _⟩, rfl, rfl⟩
end Go.Proofs.YtobnbajakenbeaaGreat


/- Contracts: PackFS, both.  -/
set_option linter.all false
set_option maxRecDepth 10000
set_option maxHeartbeats 4000000
namespace Go.Proofs.YtobnbajakenbeaaGreat
open Go Go.Eng

theorem isFS_ints {f : FS} (h : isFS f = true) : f.ints ∧ f.quotas.length = 4 := by
  unfold isFS at h
  simp only [Bool.and_eq_true] at h
  obtain ⟨⟨⟨⟨h1, h2⟩, _⟩, _⟩, _⟩ := h
  obtain ⟨l4, _⟩ := headFS_len h1
  unfold headFS inR at h1
  simp only [Bool.and_eq_true, decide_eq_true_eq] at h1
  refine ⟨⟨by unfold In64; omega, fun q hq => ?_⟩, l4⟩
  have := List.all_eq_true.1 h2 q hq
  unfold qOk inR at this
  simp only [Bool.and_eq_true, decide_eq_true_eq] at this
  unfold In64; omega
def packO (f : FS) : Option (List (List UInt8)) := if isFS f = true then some (packed f) else none
def resS (k : Nat) : Option (List (List UInt8)) → AV
  | some l => .sl k 1 0 l.length
  | none => .v (.slice none 0 0)
def heapS (k : Nat) : Option (List (List UInt8)) → Heap
  | some l => [(k, .row 9 1 (l.map strRow))]
  | none => []
theorem resS_some (k l) : resS k (some l) = .sl k 1 0 l.length := rfl
theorem resS_none (k) : resS k none = .v (.slice none 0 0) := rfl
theorem heapS_some (k l) : heapS k (some l) = [(k, .row 9 1 (l.map strRow))] := rfl
theorem heapS_none (k) : heapS k none = [] := rfl
theorem c_Zero32 : Gives Go.Proofs.Tryz.prog 62 [I 32] (str z32) := c_zeros 32 (by omega)
theorem c_Rep69 : Reads Go.Proofs.Tryz.prog 61 [.rd 1 [[.v (str z32)]], I 69] (.sl 0 1 0 69) [(0, .row 9 1 ((List.replicate 69 z32).map strRow))] 1 := c_Repeat z32 69 (by omega) (by omega)
theorem c_PackFS (f : FS) (hk : f.ok) : Reads Go.Proofs.Tryz.prog 27 [fsAV f] (resS 1 (packO f)) (heapS 1 (packO f)) 2 := by
  by_cases h : isFS f = true
  · have hp : packO f = some (packed f) := by unfold packO; rw [if_pos h]
    obtain ⟨hi, hq⟩ := isFS_ints h
    rw [hp, resS_some, heapS_some]
    refine reads_of_V mixed Go.Proofs.Tryz.call27 Go.Proofs.Tryz.func27 rfl (by rw [Go.Proofs.Tryz.ntmps27]; simp) ?_
    simp (maxSteps := 2000000) only [↓ctl, evl, val, valP, own, app, wrt, tys, Tryz.ntmps27, Tryz.results27, ↓V_convert, ↓V_bytes, stdl, cond_true, cond_false, Nat.reduceEqDiff, Nat.reduceAdd, Nat.reduceMul, Nat.reduceSub, Nat.reduceLT, Int.reduceEq, Int.reduceLT, Int.reduceLE, Int.reduceNeg, Nat.reduceLeDiff, if_true, if_false, ↓reduceIte, forall_const, implies_true, reduceCtorEq, forall_eq_or_imp, forall_eq, ne_eq, fsAV]
    refine V_callF mixed (cap := []) (fun _ => c_IsFS f hk) (by simp (maxSteps := 2000000) (contextual := true) only [↓ctl, evl, val, valP, own, app, wrt, tys, Tryz.ntmps27, Tryz.results27, ↓V_convert, ↓V_bytes, stdl, cond_true, cond_false, Nat.reduceEqDiff, Nat.reduceAdd, Nat.reduceMul, Nat.reduceSub, Nat.reduceLT, Int.reduceEq, Int.reduceLT, Int.reduceLE, Int.reduceNeg, Nat.reduceLeDiff, if_true, if_false, ↓reduceIte, forall_const, implies_true, reduceCtorEq, forall_eq_or_imp, forall_eq, ne_eq, fsAV]) (by simp (maxSteps := 2000000) (contextual := true) only [↓ctl, evl, val, valP, own, app, wrt, tys, Tryz.ntmps27, Tryz.results27, ↓V_convert, ↓V_bytes, stdl, cond_true, cond_false, Nat.reduceEqDiff, Nat.reduceAdd, Nat.reduceMul, Nat.reduceSub, Nat.reduceLT, Int.reduceEq, Int.reduceLT, Int.reduceLE, Int.reduceNeg, Nat.reduceLeDiff, if_true, if_false, ↓reduceIte, forall_const, implies_true, reduceCtorEq, forall_eq_or_imp, forall_eq, ne_eq]) (by simp (maxSteps := 2000000) (contextual := true) only [↓ctl, evl, val, valP, own, app, wrt, tys, Tryz.ntmps27, Tryz.results27, ↓V_convert, ↓V_bytes, stdl, cond_true, cond_false, Nat.reduceEqDiff, Nat.reduceAdd, Nat.reduceMul, Nat.reduceSub, Nat.reduceLT, Int.reduceEq, Int.reduceLT, Int.reduceLE, Int.reduceNeg, Nat.reduceLeDiff, if_true, if_false, ↓reduceIte, forall_const, implies_true, reduceCtorEq, forall_eq_or_imp, forall_eq, ne_eq]) trivial ?_
    simp (maxSteps := 2000000) only [↓ctl, evl, val, valP, own, app, wrt, tys, Tryz.ntmps27, Tryz.results27, ↓V_convert, ↓V_bytes, stdl, cond_true, cond_false, Nat.reduceEqDiff, Nat.reduceAdd, Nat.reduceMul, Nat.reduceSub, Nat.reduceLT, Int.reduceEq, Int.reduceLT, Int.reduceLE, Int.reduceNeg, Nat.reduceLeDiff, if_true, if_false, ↓reduceIte, forall_const, implies_true, reduceCtorEq, forall_eq_or_imp, forall_eq, ne_eq, h]
    refine V_callF mixed (cap := []) (fun _ => c_Super f hi hq) (by simp (maxSteps := 2000000) (contextual := true) only [↓ctl, evl, val, valP, own, app, wrt, tys, Tryz.ntmps27, Tryz.results27, ↓V_convert, ↓V_bytes, stdl, cond_true, cond_false, Nat.reduceEqDiff, Nat.reduceAdd, Nat.reduceMul, Nat.reduceSub, Nat.reduceLT, Int.reduceEq, Int.reduceLT, Int.reduceLE, Int.reduceNeg, Nat.reduceLeDiff, if_true, if_false, ↓reduceIte, forall_const, implies_true, reduceCtorEq, forall_eq_or_imp, forall_eq, ne_eq]) (by simp (maxSteps := 2000000) (contextual := true) only [↓ctl, evl, val, valP, own, app, wrt, tys, Tryz.ntmps27, Tryz.results27, ↓V_convert, ↓V_bytes, stdl, cond_true, cond_false, Nat.reduceEqDiff, Nat.reduceAdd, Nat.reduceMul, Nat.reduceSub, Nat.reduceLT, Int.reduceEq, Int.reduceLT, Int.reduceLE, Int.reduceNeg, Nat.reduceLeDiff, if_true, if_false, ↓reduceIte, forall_const, implies_true, reduceCtorEq, forall_eq_or_imp, forall_eq, ne_eq]) (by simp (maxSteps := 2000000) (contextual := true) only [↓ctl, evl, val, valP, own, app, wrt, tys, Tryz.ntmps27, Tryz.results27, ↓V_convert, ↓V_bytes, stdl, cond_true, cond_false, Nat.reduceEqDiff, Nat.reduceAdd, Nat.reduceMul, Nat.reduceSub, Nat.reduceLT, Int.reduceEq, Int.reduceLT, Int.reduceLE, Int.reduceNeg, Nat.reduceLeDiff, if_true, if_false, ↓reduceIte, forall_const, implies_true, reduceCtorEq, forall_eq_or_imp, forall_eq, ne_eq]) trivial ?_
    simp (maxSteps := 2000000) only [↓ctl, evl, val, valP, own, app, wrt, tys, Tryz.ntmps27, Tryz.results27, ↓V_convert, ↓V_bytes, stdl, cond_true, cond_false, Nat.reduceEqDiff, Nat.reduceAdd, Nat.reduceMul, Nat.reduceSub, Nat.reduceLT, Int.reduceEq, Int.reduceLT, Int.reduceLE, Int.reduceNeg, Nat.reduceLeDiff, if_true, if_false, ↓reduceIte, forall_const, implies_true, reduceCtorEq, forall_eq_or_imp, forall_eq, ne_eq]
    refine V_callF mixed (cap := []) (fun _ => c_Zero32) (by simp (maxSteps := 2000000) (contextual := true) only [↓ctl, evl, val, valP, own, app, wrt, tys, Tryz.ntmps27, Tryz.results27, ↓V_convert, ↓V_bytes, stdl, cond_true, cond_false, Nat.reduceEqDiff, Nat.reduceAdd, Nat.reduceMul, Nat.reduceSub, Nat.reduceLT, Int.reduceEq, Int.reduceLT, Int.reduceLE, Int.reduceNeg, Nat.reduceLeDiff, if_true, if_false, ↓reduceIte, forall_const, implies_true, reduceCtorEq, forall_eq_or_imp, forall_eq, ne_eq]) (by simp (maxSteps := 2000000) (contextual := true) only [↓ctl, evl, val, valP, own, app, wrt, tys, Tryz.ntmps27, Tryz.results27, ↓V_convert, ↓V_bytes, stdl, cond_true, cond_false, Nat.reduceEqDiff, Nat.reduceAdd, Nat.reduceMul, Nat.reduceSub, Nat.reduceLT, Int.reduceEq, Int.reduceLT, Int.reduceLE, Int.reduceNeg, Nat.reduceLeDiff, if_true, if_false, ↓reduceIte, forall_const, implies_true, reduceCtorEq, forall_eq_or_imp, forall_eq, ne_eq]) (by simp (maxSteps := 2000000) (contextual := true) only [↓ctl, evl, val, valP, own, app, wrt, tys, Tryz.ntmps27, Tryz.results27, ↓V_convert, ↓V_bytes, stdl, cond_true, cond_false, Nat.reduceEqDiff, Nat.reduceAdd, Nat.reduceMul, Nat.reduceSub, Nat.reduceLT, Int.reduceEq, Int.reduceLT, Int.reduceLE, Int.reduceNeg, Nat.reduceLeDiff, if_true, if_false, ↓reduceIte, forall_const, implies_true, reduceCtorEq, forall_eq_or_imp, forall_eq, ne_eq]) trivial ?_
    simp (maxSteps := 2000000) only [↓ctl, evl, val, valP, own, app, wrt, tys, Tryz.ntmps27, Tryz.results27, ↓V_convert, ↓V_bytes, stdl, cond_true, cond_false, Nat.reduceEqDiff, Nat.reduceAdd, Nat.reduceMul, Nat.reduceSub, Nat.reduceLT, Int.reduceEq, Int.reduceLT, Int.reduceLE, Int.reduceNeg, Nat.reduceLeDiff, if_true, if_false, ↓reduceIte, forall_const, implies_true, reduceCtorEq, forall_eq_or_imp, forall_eq, ne_eq]
    refine V_callR mixed (cap := []) (c_Rep69) (by simp (maxSteps := 2000000) only [↓ctl, evl, val, valP, own, app, wrt, tys, Tryz.ntmps27, Tryz.results27, ↓V_convert, ↓V_bytes, stdl, cond_true, cond_false, Nat.reduceEqDiff, Nat.reduceAdd, Nat.reduceMul, Nat.reduceSub, Nat.reduceLT, Int.reduceEq, Int.reduceLT, Int.reduceLE, Int.reduceNeg, Nat.reduceLeDiff, if_true, if_false, ↓reduceIte, forall_const, implies_true, reduceCtorEq, forall_eq_or_imp, forall_eq, ne_eq]) (by simp (maxSteps := 2000000) only [↓ctl, evl, val, valP, own, app, wrt, tys, Tryz.ntmps27, Tryz.results27, ↓V_convert, ↓V_bytes, stdl, cond_true, cond_false, Nat.reduceEqDiff, Nat.reduceAdd, Nat.reduceMul, Nat.reduceSub, Nat.reduceLT, Int.reduceEq, Int.reduceLT, Int.reduceLE, Int.reduceNeg, Nat.reduceLeDiff, if_true, if_false, ↓reduceIte, forall_const, implies_true, reduceCtorEq, forall_eq_or_imp, forall_eq, ne_eq]) (by simp (maxSteps := 2000000) only [↓ctl, evl, val, valP, own, app, wrt, tys, Tryz.ntmps27, Tryz.results27, ↓V_convert, ↓V_bytes, stdl, cond_true, cond_false, Nat.reduceEqDiff, Nat.reduceAdd, Nat.reduceMul, Nat.reduceSub, Nat.reduceLT, Int.reduceEq, Int.reduceLT, Int.reduceLE, Int.reduceNeg, Nat.reduceLeDiff, if_true, if_false, ↓reduceIte, forall_const, implies_true, reduceCtorEq, forall_eq_or_imp, forall_eq, ne_eq]) trivial ?_
    simp (maxSteps := 2000000) only [↓ctl, evl, val, valP, own, app, wrt, tys, Tryz.ntmps27, Tryz.results27, ↓V_convert, ↓V_bytes, stdl, cond_true, cond_false, Nat.reduceEqDiff, Nat.reduceAdd, Nat.reduceMul, Nat.reduceSub, Nat.reduceLT, Int.reduceEq, Int.reduceLT, Int.reduceLE, Int.reduceNeg, Nat.reduceLeDiff, if_true, if_false, ↓reduceIte, forall_const, implies_true, reduceCtorEq, forall_eq_or_imp, forall_eq, ne_eq]
    have t69 : List.take 69 (List.map strRow (List.replicate 69 z32)) = List.map strRow (List.replicate 69 z32) := List.take_of_length_le (by simp)
    rw [t69]
    refine ⟨⟨by simp, of_eq_true (flat_strs _)⟩, ?_⟩
    refine V_loopI mixed (ι := {i : Nat // i ≤ f.inodes.length}) (fun i => ⟨[(1, true, .ptr 0 0 0 0), (3, true, .sl 1 1 0 (midS f i.1).length), (16, true, .rd 10 (f.inodes.map inodeRow)), (17, true, I f.inodes.length), (18, true, I i.1)], [(1, .row 9 1 ((midS f i.1).map strRow)), (0, .box 35 [I f.tick, .rd 2 (f.quotas.map quotaRow), .rd 10 (f.inodes.map inodeRow), .rd 1 (f.data.map strRow)])], 2, 32⟩) (fun i => f.inodes.length - i.1)  ⟨0, by omega⟩ ?_ ?_ ?_
    · refine weakI ?_
      simp (maxSteps := 2000000) only [↓ctl, evl, val, valP, own, app, wrt, tys, Tryz.ntmps27, Tryz.results27, ↓V_convert, ↓V_bytes, stdl, cond_true, cond_false, Nat.reduceEqDiff, Nat.reduceAdd, Nat.reduceMul, Nat.reduceSub, Nat.reduceLT, Int.reduceEq, Int.reduceLT, Int.reduceLE, Int.reduceNeg, Nat.reduceLeDiff, if_true, if_false, ↓reduceIte, forall_const, implies_true, reduceCtorEq, forall_eq_or_imp, forall_eq, ne_eq]
      simp [midS, packNs, frontS, strRow]
    · trivial
    rintro ⟨i, hi⟩
    have hml := midS_len f i
    have hin := hk.inodes
    by_cases hlt : i < f.inodes.length
    · obtain ⟨m1, m2⟩ := hk.nodes _ (show f.inodes.getD i default ∈ f.inodes by rw [getD_get _ i _ hlt]; exact List.getElem_mem hlt)
      simp (maxSteps := 2000000) only [↓ctl, evl, val, valP, own, app, wrt, tys, Tryz.ntmps27, Tryz.results27, ↓V_convert, ↓V_bytes, stdl, cond_true, cond_false, Nat.reduceEqDiff, Nat.reduceAdd, Nat.reduceMul, Nat.reduceSub, Nat.reduceLT, Int.reduceEq, Int.reduceLT, Int.reduceLE, Int.reduceNeg, Nat.reduceLeDiff, if_true, if_false, ↓reduceIte, forall_const, implies_true, reduceCtorEq, forall_eq_or_imp, forall_eq, ne_eq, hlt, inodeRow_e, ints_map, acls_map]
      refine V_callF mixed (cap := []) (fun _ => c_PackInode (f.inodes.getD i default) m1.fits m2) (by simp (maxSteps := 2000000) only [↓ctl, evl, val, valP, own, app, wrt, tys, Tryz.ntmps27, Tryz.results27, ↓V_convert, ↓V_bytes, stdl, cond_true, cond_false, Nat.reduceEqDiff, Nat.reduceAdd, Nat.reduceMul, Nat.reduceSub, Nat.reduceLT, Int.reduceEq, Int.reduceLT, Int.reduceLE, Int.reduceNeg, Nat.reduceLeDiff, if_true, if_false, ↓reduceIte, forall_const, implies_true, reduceCtorEq, forall_eq_or_imp, forall_eq, ne_eq, inodeAV, ints_map, acls_map]) (by simp (maxSteps := 2000000) only [↓ctl, evl, val, valP, own, app, wrt, tys, Tryz.ntmps27, Tryz.results27, ↓V_convert, ↓V_bytes, stdl, cond_true, cond_false, Nat.reduceEqDiff, Nat.reduceAdd, Nat.reduceMul, Nat.reduceSub, Nat.reduceLT, Int.reduceEq, Int.reduceLT, Int.reduceLE, Int.reduceNeg, Nat.reduceLeDiff, if_true, if_false, ↓reduceIte, forall_const, implies_true, reduceCtorEq, forall_eq_or_imp, forall_eq, ne_eq]) (by simp (maxSteps := 2000000) only [↓ctl, evl, val, valP, own, app, wrt, tys, Tryz.ntmps27, Tryz.results27, ↓V_convert, ↓V_bytes, stdl, cond_true, cond_false, Nat.reduceEqDiff, Nat.reduceAdd, Nat.reduceMul, Nat.reduceSub, Nat.reduceLT, Int.reduceEq, Int.reduceLT, Int.reduceLE, Int.reduceNeg, Nat.reduceLeDiff, if_true, if_false, ↓reduceIte, forall_const, implies_true, reduceCtorEq, forall_eq_or_imp, forall_eq, ne_eq]) trivial ?_
      simp (maxSteps := 2000000) only [↓ctl, evl, val, valP, own, app, wrt, tys, Tryz.ntmps27, Tryz.results27, ↓V_convert, ↓V_bytes, stdl, cond_true, cond_false, Nat.reduceEqDiff, Nat.reduceAdd, Nat.reduceMul, Nat.reduceSub, Nat.reduceLT, Int.reduceEq, Int.reduceLT, Int.reduceLE, Int.reduceNeg, Nat.reduceLeDiff, if_true, if_false, ↓reduceIte, forall_const, implies_true, reduceCtorEq, forall_eq_or_imp, forall_eq, ne_eq]
      have hpl := packInode_len (f.inodes.getD i default)
      have hcl := cuts_len 32 _ _ (Nat.le_refl (packInode (f.inodes.getD i default)).length)
      refine V_callR mixed (cap := []) (c_Cut32 (packInode (f.inodes.getD i default)) (by omega)) (by simp (maxSteps := 2000000) only [↓ctl, evl, val, valP, own, app, wrt, tys, Tryz.ntmps27, Tryz.results27, ↓V_convert, ↓V_bytes, stdl, cond_true, cond_false, Nat.reduceEqDiff, Nat.reduceAdd, Nat.reduceMul, Nat.reduceSub, Nat.reduceLT, Int.reduceEq, Int.reduceLT, Int.reduceLE, Int.reduceNeg, Nat.reduceLeDiff, if_true, if_false, ↓reduceIte, forall_const, implies_true, reduceCtorEq, forall_eq_or_imp, forall_eq, ne_eq]) (by simp (maxSteps := 2000000) only [↓ctl, evl, val, valP, own, app, wrt, tys, Tryz.ntmps27, Tryz.results27, ↓V_convert, ↓V_bytes, stdl, cond_true, cond_false, Nat.reduceEqDiff, Nat.reduceAdd, Nat.reduceMul, Nat.reduceSub, Nat.reduceLT, Int.reduceEq, Int.reduceLT, Int.reduceLE, Int.reduceNeg, Nat.reduceLeDiff, if_true, if_false, ↓reduceIte, forall_const, implies_true, reduceCtorEq, forall_eq_or_imp, forall_eq, ne_eq]) (by simp (maxSteps := 2000000) only [↓ctl, evl, val, valP, own, app, wrt, tys, Tryz.ntmps27, Tryz.results27, ↓V_convert, ↓V_bytes, stdl, cond_true, cond_false, Nat.reduceEqDiff, Nat.reduceAdd, Nat.reduceMul, Nat.reduceSub, Nat.reduceLT, Int.reduceEq, Int.reduceLT, Int.reduceLE, Int.reduceNeg, Nat.reduceLeDiff, if_true, if_false, ↓reduceIte, forall_const, implies_true, reduceCtorEq, forall_eq_or_imp, forall_eq, ne_eq]) trivial ?_
      simp (maxSteps := 2000000) only [↓ctl, evl, val, valP, own, app, wrt, tys, Tryz.ntmps27, Tryz.results27, ↓V_convert, ↓V_bytes, stdl, cond_true, cond_false, Nat.reduceEqDiff, Nat.reduceAdd, Nat.reduceMul, Nat.reduceSub, Nat.reduceLT, Int.reduceEq, Int.reduceLT, Int.reduceLE, Int.reduceNeg, Nat.reduceLeDiff, if_true, if_false, ↓reduceIte, forall_const, implies_true, reduceCtorEq, forall_eq_or_imp, forall_eq, ne_eq]
      rw [take_map, take_map]
      refine ⟨⟨⟨by simp, of_eq_true (flat_strs _), by omega⟩, Nat.le_refl _⟩, V_backI ⟨i + 1, by omega⟩ (by show _ - (i + 1) < _; omega) (weakI ?_)⟩
      simp (maxSteps := 2000000) only [↓ctl, evl, val, valP, own, app, wrt, tys, Tryz.ntmps27, Tryz.results27, ↓V_convert, ↓V_bytes, stdl, cond_true, cond_false, Nat.reduceEqDiff, Nat.reduceAdd, Nat.reduceMul, Nat.reduceSub, Nat.reduceLT, Int.reduceEq, Int.reduceLT, Int.reduceLE, Int.reduceNeg, Nat.reduceLeDiff, if_true, if_false, ↓reduceIte, forall_const, implies_true, reduceCtorEq, forall_eq_or_imp, forall_eq, ne_eq]
      rw [wrap_id (by omega) (by omega), midS_succ hlt, List.length_append, List.map_append]
      exact ⟨⟨rfl, rfl⟩, rfl⟩
    · have : i = f.inodes.length := by omega
      subst this
      have hdl := hk.data
      simp (maxSteps := 2000000) only [↓ctl, evl, val, valP, own, app, wrt, tys, Tryz.ntmps27, Tryz.results27, ↓V_convert, ↓V_bytes, stdl, cond_true, cond_false, Nat.reduceEqDiff, Nat.reduceAdd, Nat.reduceMul, Nat.reduceSub, Nat.reduceLT, Int.reduceEq, Int.reduceLT, Int.reduceLE, Int.reduceNeg, Nat.reduceLeDiff, if_true, if_false, ↓reduceIte, forall_const, implies_true, reduceCtorEq, forall_eq_or_imp, forall_eq, ne_eq, hlt]
      rw [take_map, packed_mid, List.length_append, List.map_append]
      refine ⟨⟨by omega, Nat.le_refl _⟩, rfl, rfl⟩
  · have h : isFS f = false := by simpa using h
    have hp : packO f = none := by unfold packO; rw [if_neg (by simp [h])]
    rw [hp, resS_none, heapS_none]
    refine reads_of_V mixed Go.Proofs.Tryz.call27 Go.Proofs.Tryz.func27 rfl (by rw [Go.Proofs.Tryz.ntmps27]; simp) ?_
    simp (maxSteps := 2000000) only [↓ctl, evl, val, valP, own, app, wrt, tys, Tryz.ntmps27, Tryz.results27, ↓V_convert, ↓V_bytes, stdl, cond_true, cond_false, Nat.reduceEqDiff, Nat.reduceAdd, Nat.reduceMul, Nat.reduceSub, Nat.reduceLT, Int.reduceEq, Int.reduceLT, Int.reduceLE, Int.reduceNeg, Nat.reduceLeDiff, if_true, if_false, ↓reduceIte, forall_const, implies_true, reduceCtorEq, forall_eq_or_imp, forall_eq, ne_eq, fsAV]
    refine V_callF mixed (cap := []) (fun _ => c_IsFS f hk) (by simp (maxSteps := 2000000) (contextual := true) only [↓ctl, evl, val, valP, own, app, wrt, tys, Tryz.ntmps27, Tryz.results27, ↓V_convert, ↓V_bytes, stdl, cond_true, cond_false, Nat.reduceEqDiff, Nat.reduceAdd, Nat.reduceMul, Nat.reduceSub, Nat.reduceLT, Int.reduceEq, Int.reduceLT, Int.reduceLE, Int.reduceNeg, Nat.reduceLeDiff, if_true, if_false, ↓reduceIte, forall_const, implies_true, reduceCtorEq, forall_eq_or_imp, forall_eq, ne_eq, fsAV]) (by simp (maxSteps := 2000000) (contextual := true) only [↓ctl, evl, val, valP, own, app, wrt, tys, Tryz.ntmps27, Tryz.results27, ↓V_convert, ↓V_bytes, stdl, cond_true, cond_false, Nat.reduceEqDiff, Nat.reduceAdd, Nat.reduceMul, Nat.reduceSub, Nat.reduceLT, Int.reduceEq, Int.reduceLT, Int.reduceLE, Int.reduceNeg, Nat.reduceLeDiff, if_true, if_false, ↓reduceIte, forall_const, implies_true, reduceCtorEq, forall_eq_or_imp, forall_eq, ne_eq]) (by simp (maxSteps := 2000000) (contextual := true) only [↓ctl, evl, val, valP, own, app, wrt, tys, Tryz.ntmps27, Tryz.results27, ↓V_convert, ↓V_bytes, stdl, cond_true, cond_false, Nat.reduceEqDiff, Nat.reduceAdd, Nat.reduceMul, Nat.reduceSub, Nat.reduceLT, Int.reduceEq, Int.reduceLT, Int.reduceLE, Int.reduceNeg, Nat.reduceLeDiff, if_true, if_false, ↓reduceIte, forall_const, implies_true, reduceCtorEq, forall_eq_or_imp, forall_eq, ne_eq]) trivial ?_
    simp (maxSteps := 2000000) only [↓ctl, evl, val, valP, own, app, wrt, tys, Tryz.ntmps27, Tryz.results27, ↓V_convert, ↓V_bytes, stdl, cond_true, cond_false, Nat.reduceEqDiff, Nat.reduceAdd, Nat.reduceMul, Nat.reduceSub, Nat.reduceLT, Int.reduceEq, Int.reduceLT, Int.reduceLE, Int.reduceNeg, Nat.reduceLeDiff, if_true, if_false, ↓reduceIte, forall_const, implies_true, reduceCtorEq, forall_eq_or_imp, forall_eq, ne_eq, h]
end Go.Proofs.YtobnbajakenbeaaGreat


/- Rows: a file system's reading. -/
set_option linter.all false
set_option maxRecDepth 10000
namespace Go.Proofs.YtobnbajakenbeaaGreat
open Go Go.Eng Go.ChangeShapes Go.WideShapes Go.Deep Go.RowKit

section
variable {H : Type} {enc : TypeId × Value → H} {W : World} {base : Nat} {spare : Nat → Bool} {held : Bool}
theorem max_e : maxLen = 9223372036854775807 := by unfold maxLen; rfl
theorem open_ints {n : Nat} {cs : List Value} {x : DataW H × List MemPlace} (h : DataW.trod enc Go.Proofs.Tryz.prog W base spare held n 72 cs = some x) :
    ∃ (l : List Int) (v : Value), cs = [v] ∧ RdRow (totR W) 1 (l.map intRow) v ∧ l.length ≤ 9223372036854775807 ∧ ∀ a ∈ l, In64 a :=
  open_rows intRow (fun a => In64 a) (fun _ => rfl) (by omega) Go.Proofs.Tryz.underlying72 (by kernel_rfl) (fun n cs y h => by
    obtain ⟨a, ha, rfl⟩ := open_int1 Go.Proofs.Tryz.underlying3 h
    exact ⟨a, ha, RowOk.cons rfl RowOk.nil⟩) h
theorem open_strs {n : Nat} {cs : List Value} {x : DataW H × List MemPlace} (h : DataW.trod enc Go.Proofs.Tryz.prog W base spare held n 24 cs = some x) :
    ∃ (l : List (List UInt8)) (v : Value), cs = [v] ∧ RdRow (totR W) 1 (l.map strRow) v ∧ l.length ≤ 9223372036854775807 ∧ ∀ a ∈ l, a.length ≤ 9223372036854775807 :=
  open_rows strRow (fun a => a.length ≤ 9223372036854775807) (fun _ => rfl) (by omega) Go.Proofs.Tryz.underlying24 (by kernel_rfl) (fun n cs y h => by
    obtain ⟨a, ha, rfl⟩ := open_str1 Go.Proofs.Tryz.underlying9 h
    exact ⟨a, ha, RowOk.cons rfl RowOk.nil⟩) h
/-- A struct of one-cell fields. -/
theorem open_flds {P : Program} {t : TypeId} {fs : Array Field} {fuel : Nat} {cs : List Value} {x : DataW H × List MemPlace} (hs : P.underlying t = some (.struct fs)) (hone : oneCellFields P fs = true) (h : DataW.trod enc P W base spare held fuel t cs = some x) :
    cs.length = P.cellsOf t ∧ ∃ n, ∀ (j : Nat) (f : Field) c, fs[j]? = some f → cs[j]? = some c → ∃ y, DataW.trod enc P W base spare held n f.type [c] = some y := by
  obtain ⟨xs, n, _, _, hcl, hxl, hg⟩ := DataW.trod_struct hs h
  refine ⟨hcl, n, fun j f c hf hc => ?_⟩
  obtain ⟨o, k⟩ := hone_of hone j f hf
  have h1 := hg j f hf
  have hj : j < fs.size := (Array.getElem?_eq_some_iff.1 hf).1
  have hjc : j < cs.length := (List.getElem?_eq_some_iff.1 hc).1
  rw [o, k, List.drop_eq_getElem_cons hjc] at h1
  have e : cs[j] = c := by rw [List.getElem?_eq_getElem hjc] at hc; simpa using hc
  rw [e] at h1
  rw [List.getElem?_eq_getElem (show j < xs.length by omega)] at h1
  exact ⟨_, h1⟩
theorem open_acls {n : Nat} {cs : List Value} {x : DataW H × List MemPlace} (h : DataW.trod enc Go.Proofs.Tryz.prog W base spare held n 73 cs = some x) :
    ∃ (l : List Acl) (v : Value), cs = [v] ∧ RdRow (totR W) 3 (l.map aclRow) v ∧ l.length ≤ 9223372036854775807 ∧ ∀ a ∈ l, True :=
  open_rows aclRow (fun _ => True) (fun _ => rfl) (by omega) Go.Proofs.Tryz.underlying73 (by kernel_rfl) (fun n cs y h => by
    obtain ⟨hl, m, hf⟩ := open_flds Go.Proofs.Tryz.underlying135 (by kernel_rfl) h
    rw [show Go.Proofs.Tryz.prog.cellsOf 135 = 3 by kernel_rfl] at hl
    match cs, hl with
    | [c0, c1, c2], _ =>
      obtain ⟨_, h0⟩ := hf 0 _ c0 rfl rfl
      obtain ⟨_, h1⟩ := hf 1 _ c1 rfl rfl
      obtain ⟨_, h2⟩ := hf 2 _ c2 rfl rfl
      obtain ⟨a0, _, e0⟩ := open_int1 Go.Proofs.Tryz.underlying3 h0
      obtain ⟨a1, _, e1⟩ := open_int1 Go.Proofs.Tryz.underlying3 h1
      obtain ⟨a2, _, e2⟩ := open_int1 Go.Proofs.Tryz.underlying3 h2
      simp only [List.cons.injEq, and_true] at e0 e1 e2
      subst e0; subst e1; subst e2
      exact ⟨⟨a0, a1, a2⟩, trivial, by rw [aclRow_e]; exact RowOk.cons rfl (RowOk.cons rfl (RowOk.cons rfl RowOk.nil))⟩) h
theorem open_quotas {n : Nat} {cs : List Value} {x : DataW H × List MemPlace} (h : DataW.trod enc Go.Proofs.Tryz.prog W base spare held n 22 cs = some x) :
    ∃ (l : List Quota) (v : Value), cs = [v] ∧ RdRow (totR W) 2 (l.map quotaRow) v ∧ l.length ≤ 9223372036854775807 ∧ ∀ a ∈ l, True :=
  open_rows quotaRow (fun _ => True) (fun _ => rfl) (by omega) Go.Proofs.Tryz.underlying22 (by kernel_rfl) (fun n cs y h => by
    obtain ⟨hl, m, hf⟩ := open_flds Go.Proofs.Tryz.underlying92 (by kernel_rfl) h
    rw [show Go.Proofs.Tryz.prog.cellsOf 92 = 2 by kernel_rfl] at hl
    match cs, hl with
    | [c0, c1], _ =>
      obtain ⟨_, h0⟩ := hf 0 _ c0 rfl rfl
      obtain ⟨_, h1⟩ := hf 1 _ c1 rfl rfl
      obtain ⟨a0, _, e0⟩ := open_int1 Go.Proofs.Tryz.underlying3 h0
      obtain ⟨a1, _, e1⟩ := open_int1 Go.Proofs.Tryz.underlying3 h1
      simp only [List.cons.injEq, and_true] at e0 e1
      subst e0; subst e1
      exact ⟨⟨a0, a1⟩, trivial, by rw [quotaRow_e]; exact RowOk.cons rfl (RowOk.cons rfl RowOk.nil)⟩) h
def Inode.read (n : Inode) : Prop := n.big ∧ In64 n.size
theorem open_inodes {n : Nat} {cs : List Value} {x : DataW H × List MemPlace} (h : DataW.trod enc Go.Proofs.Tryz.prog W base spare held n 23 cs = some x) :
    ∃ (l : List Inode) (v : Value), cs = [v] ∧ RdRow (totR W) 10 (l.map inodeRow) v ∧ l.length ≤ 9223372036854775807 ∧ ∀ a ∈ l, Inode.read a :=
  open_rows inodeRow Inode.read (fun _ => rfl) (by omega) Go.Proofs.Tryz.underlying23 (by kernel_rfl) (fun n cs y h => by
    obtain ⟨hl, m, hf⟩ := open_flds Go.Proofs.Tryz.underlying75 (by kernel_rfl) h
    rw [show Go.Proofs.Tryz.prog.cellsOf 75 = 10 by kernel_rfl] at hl
    match cs, hl with
    | [c0, c1, c2, c3, c4, c5, c6, c7, c8, c9], _ =>
      obtain ⟨_, h0⟩ := hf 0 _ c0 rfl rfl
      obtain ⟨_, h1⟩ := hf 1 _ c1 rfl rfl
      obtain ⟨_, h2⟩ := hf 2 _ c2 rfl rfl
      obtain ⟨_, h3⟩ := hf 3 _ c3 rfl rfl
      obtain ⟨_, h4⟩ := hf 4 _ c4 rfl rfl
      obtain ⟨_, h5⟩ := hf 5 _ c5 rfl rfl
      obtain ⟨_, h6⟩ := hf 6 _ c6 rfl rfl
      obtain ⟨_, h7⟩ := hf 7 _ c7 rfl rfl
      obtain ⟨_, h8⟩ := hf 8 _ c8 rfl rfl
      obtain ⟨_, h9⟩ := hf 9 _ c9 rfl rfl
      obtain ⟨a0, _, e0⟩ := open_int1 Go.Proofs.Tryz.underlying3 h0
      obtain ⟨a1, _, e1⟩ := open_int1 Go.Proofs.Tryz.underlying3 h1
      obtain ⟨a2, _, e2⟩ := open_int1 Go.Proofs.Tryz.underlying3 h2
      obtain ⟨a3, _, e3⟩ := open_int1 Go.Proofs.Tryz.underlying3 h3
      obtain ⟨a4, _, e4⟩ := open_int1 Go.Proofs.Tryz.underlying3 h4
      obtain ⟨a5, i5, e5⟩ := open_int1 Go.Proofs.Tryz.underlying3 h5
      obtain ⟨a6, _, e6⟩ := open_int1 Go.Proofs.Tryz.underlying3 h6
      obtain ⟨l7, v7, e7, r7, g7, _⟩ := open_ints h7
      obtain ⟨l8, v8, e8, r8, g8, _⟩ := open_acls h8
      obtain ⟨l9, v9, e9, r9, g9, _⟩ := open_acls h9
      simp only [List.cons.injEq, and_true] at e0 e1 e2 e3 e4 e5 e6 e7 e8 e9
      subst e0; subst e1; subst e2; subst e3; subst e4; subst e5; subst e6; subst e7; subst e8; subst e9
      refine ⟨⟨a0, a1, a2, a3, a4, a5, a6, l7, l8, l9⟩, ⟨⟨g7, g8, g9⟩, i5⟩, ?_⟩
      rw [← ints_map] at r7
      rw [← acls_map] at r8 r9
      rw [inodeRow_e]
      exact RowOk.cons rfl (RowOk.cons rfl (RowOk.cons rfl (RowOk.cons rfl (RowOk.cons rfl (RowOk.cons rfl (RowOk.cons rfl (RowOk.cons (rdFlat_of r7) (RowOk.cons (rdFlat_of r8) (RowOk.cons (rdFlat_of r9) RowOk.nil)))))))))) h
structure FS.read (f : FS) : Prop where
  big : f.big
  sizes : ∀ n ∈ f.inodes, In64 n.size
theorem open_fs {b0 : Nat} {v : Value} {d : DataW H} {p : List MemPlace} (hv : Value.okWide Go.Proofs.Tryz.prog W .any b0 26 v) (h : DataW.Trod enc Go.Proofs.Tryz.prog W base spare held 26 v d p) :
    ∃ f : FS, f.read ∧ Oks (roM (totR W) W) [fsAV f] [v] := by
  obtain ⟨cs, rfl, hsz⟩ := okWide_struct Go.Proofs.Tryz.underlying26 hv
  obtain ⟨l⟩ := cs
  obtain ⟨fuel, h⟩ := h
  obtain ⟨hl, m, hf⟩ := open_flds Go.Proofs.Tryz.underlying26 (by kernel_rfl) h
  rw [show Go.Proofs.Tryz.prog.cellsOf 26 = 4 by kernel_rfl] at hl
  simp only [Value.cells] at hl hf
  match l, hl with
  | [c0, c1, c2, c3], _ =>
    obtain ⟨_, h0⟩ := hf 0 _ c0 rfl rfl
    obtain ⟨_, h1⟩ := hf 1 _ c1 rfl rfl
    obtain ⟨_, h2⟩ := hf 2 _ c2 rfl rfl
    obtain ⟨_, h3⟩ := hf 3 _ c3 rfl rfl
    obtain ⟨a0, _, e0⟩ := open_int1 Go.Proofs.Tryz.underlying3 h0
    obtain ⟨l1, v1, e1, r1, g1, _⟩ := open_quotas h1
    obtain ⟨l2, v2, e2, r2, g2, q2⟩ := open_inodes h2
    obtain ⟨l3, v3, e3, r3, g3, q3⟩ := open_strs h3
    simp only [List.cons.injEq, and_true] at e0 e1 e2 e3
    subst e0; subst e1; subst e2; subst e3
    refine ⟨⟨a0, l1, l2, l3⟩, ⟨⟨g1, g2, g3, fun n hn => (q2 n hn).1, q3⟩, fun n hn => (q2 n hn).2⟩, ?_⟩
    simp only [fsAV, Oks, Ok]
    exact ⟨_, _, rfl, ⟨_, rfl, _, _, rfl, rfl, _, _, rfl, r1, _, _, rfl, r2, _, _, rfl, r3, rfl⟩, rfl⟩
end
end Go.Proofs.YtobnbajakenbeaaGreat


/- Contracts: FormatFS, both; disks without pending writes.  -/
set_option linter.all false
set_option maxRecDepth 10000
set_option maxHeartbeats 4000000
namespace Go.Proofs.YtobnbajakenbeaaGreat
open Go Go.Eng

def resD (k : Nat) : Option (List (List UInt8)) → AV
  | some l => .agg [.sl k 1 0 l.length, .v (.slice none 0 0)]
  | none => .agg [.v (.slice none 0 0), .v (.slice none 0 0)]
theorem resD_some (k l) : resD k (some l) = .agg [.sl k 1 0 l.length, .v (.slice none 0 0)] := rfl
theorem resD_none (k) : resD k none = .agg [.v (.slice none 0 0), .v (.slice none 0 0)] := rfl
theorem d_FormatFS (f : FS) (hk : f.ok) : Reads Go.Proofs.Tryz.prog 6 [fsAV f] (resD 3 (packO f)) (heapS 3 (packO f)) 4 := by
  by_cases h : isFS f = true
  · have hp : packO f = some (packed f) := by unfold packO; rw [if_pos h]
    obtain ⟨hi, hq⟩ := isFS_ints h
    rw [hp, resD_some, heapS_some]
    refine reads_of_V mixed Go.Proofs.Tryz.call6 Go.Proofs.Tryz.func6 rfl (by rw [Go.Proofs.Tryz.ntmps6]; simp) ?_
    simp (maxSteps := 2000000) only [↓ctl, evl, val, valP, own, app, wrt, tys, Tryz.ntmps6, Tryz.results6, ↓V_convert, ↓V_bytes, stdl, cond_true, cond_false, Nat.reduceEqDiff, Nat.reduceAdd, Nat.reduceMul, Nat.reduceSub, Nat.reduceLT, Int.reduceEq, Int.reduceLT, Int.reduceLE, Int.reduceNeg, Nat.reduceLeDiff, if_true, if_false, ↓reduceIte, forall_const, implies_true, reduceCtorEq, forall_eq_or_imp, forall_eq, ne_eq, fsAV]
    refine V_callF mixed (cap := []) (fun _ => d_IsFS f hk) (by simp (maxSteps := 2000000) (contextual := true) only [↓ctl, evl, val, valP, own, app, wrt, tys, Tryz.ntmps6, Tryz.results6, ↓V_convert, ↓V_bytes, stdl, cond_true, cond_false, Nat.reduceEqDiff, Nat.reduceAdd, Nat.reduceMul, Nat.reduceSub, Nat.reduceLT, Int.reduceEq, Int.reduceLT, Int.reduceLE, Int.reduceNeg, Nat.reduceLeDiff, if_true, if_false, ↓reduceIte, forall_const, implies_true, reduceCtorEq, forall_eq_or_imp, forall_eq, ne_eq, fsAV]) (by simp (maxSteps := 2000000) (contextual := true) only [↓ctl, evl, val, valP, own, app, wrt, tys, Tryz.ntmps6, Tryz.results6, ↓V_convert, ↓V_bytes, stdl, cond_true, cond_false, Nat.reduceEqDiff, Nat.reduceAdd, Nat.reduceMul, Nat.reduceSub, Nat.reduceLT, Int.reduceEq, Int.reduceLT, Int.reduceLE, Int.reduceNeg, Nat.reduceLeDiff, if_true, if_false, ↓reduceIte, forall_const, implies_true, reduceCtorEq, forall_eq_or_imp, forall_eq, ne_eq]) (by simp (maxSteps := 2000000) (contextual := true) only [↓ctl, evl, val, valP, own, app, wrt, tys, Tryz.ntmps6, Tryz.results6, ↓V_convert, ↓V_bytes, stdl, cond_true, cond_false, Nat.reduceEqDiff, Nat.reduceAdd, Nat.reduceMul, Nat.reduceSub, Nat.reduceLT, Int.reduceEq, Int.reduceLT, Int.reduceLE, Int.reduceNeg, Nat.reduceLeDiff, if_true, if_false, ↓reduceIte, forall_const, implies_true, reduceCtorEq, forall_eq_or_imp, forall_eq, ne_eq]) trivial ?_
    simp (maxSteps := 2000000) only [↓ctl, evl, val, valP, own, app, wrt, tys, Tryz.ntmps6, Tryz.results6, ↓V_convert, ↓V_bytes, stdl, cond_true, cond_false, Nat.reduceEqDiff, Nat.reduceAdd, Nat.reduceMul, Nat.reduceSub, Nat.reduceLT, Int.reduceEq, Int.reduceLT, Int.reduceLE, Int.reduceNeg, Nat.reduceLeDiff, if_true, if_false, ↓reduceIte, forall_const, implies_true, reduceCtorEq, forall_eq_or_imp, forall_eq, ne_eq, h]
    refine V_callR mixed (cap := []) (d_l18Pack f hk hi hq) (by simp (maxSteps := 2000000) only [↓ctl, evl, val, valP, own, app, wrt, tys, Tryz.ntmps6, Tryz.results6, ↓V_convert, ↓V_bytes, stdl, cond_true, cond_false, Nat.reduceEqDiff, Nat.reduceAdd, Nat.reduceMul, Nat.reduceSub, Nat.reduceLT, Int.reduceEq, Int.reduceLT, Int.reduceLE, Int.reduceNeg, Nat.reduceLeDiff, if_true, if_false, ↓reduceIte, forall_const, implies_true, reduceCtorEq, forall_eq_or_imp, forall_eq, ne_eq, fsAV]) (by simp (maxSteps := 2000000) only [↓ctl, evl, val, valP, own, app, wrt, tys, Tryz.ntmps6, Tryz.results6, ↓V_convert, ↓V_bytes, stdl, cond_true, cond_false, Nat.reduceEqDiff, Nat.reduceAdd, Nat.reduceMul, Nat.reduceSub, Nat.reduceLT, Int.reduceEq, Int.reduceLT, Int.reduceLE, Int.reduceNeg, Nat.reduceLeDiff, if_true, if_false, ↓reduceIte, forall_const, implies_true, reduceCtorEq, forall_eq_or_imp, forall_eq, ne_eq]) (by simp (maxSteps := 2000000) only [↓ctl, evl, val, valP, own, app, wrt, tys, Tryz.ntmps6, Tryz.results6, ↓V_convert, ↓V_bytes, stdl, cond_true, cond_false, Nat.reduceEqDiff, Nat.reduceAdd, Nat.reduceMul, Nat.reduceSub, Nat.reduceLT, Int.reduceEq, Int.reduceLT, Int.reduceLE, Int.reduceNeg, Nat.reduceLeDiff, if_true, if_false, ↓reduceIte, forall_const, implies_true, reduceCtorEq, forall_eq_or_imp, forall_eq, ne_eq]) trivial ?_
    simp (maxSteps := 2000000) only [↓ctl, evl, val, valP, own, app, wrt, tys, Tryz.ntmps6, Tryz.results6, ↓V_convert, ↓V_bytes, stdl, cond_true, cond_false, Nat.reduceEqDiff, Nat.reduceAdd, Nat.reduceMul, Nat.reduceSub, Nat.reduceLT, Int.reduceEq, Int.reduceLT, Int.reduceLE, Int.reduceNeg, Nat.reduceLeDiff, if_true, if_false, ↓reduceIte, forall_const, implies_true, reduceCtorEq, forall_eq_or_imp, forall_eq, ne_eq]
    try exact ⟨rfl, rfl⟩
  · have h : isFS f = false := by simpa using h
    have hp : packO f = none := by unfold packO; rw [if_neg (by simp [h])]
    rw [hp, resD_none, heapS_none]
    refine reads_of_V mixed Go.Proofs.Tryz.call6 Go.Proofs.Tryz.func6 rfl (by rw [Go.Proofs.Tryz.ntmps6]; simp) ?_
    simp (maxSteps := 2000000) only [↓ctl, evl, val, valP, own, app, wrt, tys, Tryz.ntmps6, Tryz.results6, ↓V_convert, ↓V_bytes, stdl, cond_true, cond_false, Nat.reduceEqDiff, Nat.reduceAdd, Nat.reduceMul, Nat.reduceSub, Nat.reduceLT, Int.reduceEq, Int.reduceLT, Int.reduceLE, Int.reduceNeg, Nat.reduceLeDiff, if_true, if_false, ↓reduceIte, forall_const, implies_true, reduceCtorEq, forall_eq_or_imp, forall_eq, ne_eq, fsAV]
    refine V_callF mixed (cap := []) (fun _ => d_IsFS f hk) (by simp (maxSteps := 2000000) (contextual := true) only [↓ctl, evl, val, valP, own, app, wrt, tys, Tryz.ntmps6, Tryz.results6, ↓V_convert, ↓V_bytes, stdl, cond_true, cond_false, Nat.reduceEqDiff, Nat.reduceAdd, Nat.reduceMul, Nat.reduceSub, Nat.reduceLT, Int.reduceEq, Int.reduceLT, Int.reduceLE, Int.reduceNeg, Nat.reduceLeDiff, if_true, if_false, ↓reduceIte, forall_const, implies_true, reduceCtorEq, forall_eq_or_imp, forall_eq, ne_eq, fsAV]) (by simp (maxSteps := 2000000) (contextual := true) only [↓ctl, evl, val, valP, own, app, wrt, tys, Tryz.ntmps6, Tryz.results6, ↓V_convert, ↓V_bytes, stdl, cond_true, cond_false, Nat.reduceEqDiff, Nat.reduceAdd, Nat.reduceMul, Nat.reduceSub, Nat.reduceLT, Int.reduceEq, Int.reduceLT, Int.reduceLE, Int.reduceNeg, Nat.reduceLeDiff, if_true, if_false, ↓reduceIte, forall_const, implies_true, reduceCtorEq, forall_eq_or_imp, forall_eq, ne_eq]) (by simp (maxSteps := 2000000) (contextual := true) only [↓ctl, evl, val, valP, own, app, wrt, tys, Tryz.ntmps6, Tryz.results6, ↓V_convert, ↓V_bytes, stdl, cond_true, cond_false, Nat.reduceEqDiff, Nat.reduceAdd, Nat.reduceMul, Nat.reduceSub, Nat.reduceLT, Int.reduceEq, Int.reduceLT, Int.reduceLE, Int.reduceNeg, Nat.reduceLeDiff, if_true, if_false, ↓reduceIte, forall_const, implies_true, reduceCtorEq, forall_eq_or_imp, forall_eq, ne_eq]) trivial ?_
    simp (maxSteps := 2000000) only [↓ctl, evl, val, valP, own, app, wrt, tys, Tryz.ntmps6, Tryz.results6, ↓V_convert, ↓V_bytes, stdl, cond_true, cond_false, Nat.reduceEqDiff, Nat.reduceAdd, Nat.reduceMul, Nat.reduceSub, Nat.reduceLT, Int.reduceEq, Int.reduceLT, Int.reduceLE, Int.reduceNeg, Nat.reduceLeDiff, if_true, if_false, ↓reduceIte, forall_const, implies_true, reduceCtorEq, forall_eq_or_imp, forall_eq, ne_eq, h]
theorem c_FormatFS (f : FS) (hk : f.ok) : Reads Go.Proofs.Tryz.prog 8 [fsAV f] (resD 3 (packO f)) (heapS 3 (packO f)) 4 := by
  have hc := c_PackFS f hk
  cases hp : packO f with
  | some l =>
    rw [hp, resS_some, heapS_some] at hc
    rw [resD_some, heapS_some]
    refine reads_of_V mixed Go.Proofs.Tryz.call8 Go.Proofs.Tryz.func8 rfl (by rw [Go.Proofs.Tryz.ntmps8]; simp) ?_
    simp (maxSteps := 2000000) only [↓ctl, evl, val, valP, own, app, wrt, tys, Tryz.ntmps8, Tryz.results8, ↓V_convert, ↓V_bytes, stdl, cond_true, cond_false, Nat.reduceEqDiff, Nat.reduceAdd, Nat.reduceMul, Nat.reduceSub, Nat.reduceLT, Int.reduceEq, Int.reduceLT, Int.reduceLE, Int.reduceNeg, Nat.reduceLeDiff, if_true, if_false, ↓reduceIte, forall_const, implies_true, reduceCtorEq, forall_eq_or_imp, forall_eq, ne_eq, fsAV]
    refine V_callR mixed (cap := []) (hc) (by simp (maxSteps := 2000000) only [↓ctl, evl, val, valP, own, app, wrt, tys, Tryz.ntmps8, Tryz.results8, ↓V_convert, ↓V_bytes, stdl, cond_true, cond_false, Nat.reduceEqDiff, Nat.reduceAdd, Nat.reduceMul, Nat.reduceSub, Nat.reduceLT, Int.reduceEq, Int.reduceLT, Int.reduceLE, Int.reduceNeg, Nat.reduceLeDiff, if_true, if_false, ↓reduceIte, forall_const, implies_true, reduceCtorEq, forall_eq_or_imp, forall_eq, ne_eq, fsAV]) (by simp (maxSteps := 2000000) only [↓ctl, evl, val, valP, own, app, wrt, tys, Tryz.ntmps8, Tryz.results8, ↓V_convert, ↓V_bytes, stdl, cond_true, cond_false, Nat.reduceEqDiff, Nat.reduceAdd, Nat.reduceMul, Nat.reduceSub, Nat.reduceLT, Int.reduceEq, Int.reduceLT, Int.reduceLE, Int.reduceNeg, Nat.reduceLeDiff, if_true, if_false, ↓reduceIte, forall_const, implies_true, reduceCtorEq, forall_eq_or_imp, forall_eq, ne_eq]) (by simp (maxSteps := 2000000) only [↓ctl, evl, val, valP, own, app, wrt, tys, Tryz.ntmps8, Tryz.results8, ↓V_convert, ↓V_bytes, stdl, cond_true, cond_false, Nat.reduceEqDiff, Nat.reduceAdd, Nat.reduceMul, Nat.reduceSub, Nat.reduceLT, Int.reduceEq, Int.reduceLT, Int.reduceLE, Int.reduceNeg, Nat.reduceLeDiff, if_true, if_false, ↓reduceIte, forall_const, implies_true, reduceCtorEq, forall_eq_or_imp, forall_eq, ne_eq]) trivial ?_
    simp (maxSteps := 2000000) only [↓ctl, evl, val, valP, own, app, wrt, tys, Tryz.ntmps8, Tryz.results8, ↓V_convert, ↓V_bytes, stdl, cond_true, cond_false, Nat.reduceEqDiff, Nat.reduceAdd, Nat.reduceMul, Nat.reduceSub, Nat.reduceLT, Int.reduceEq, Int.reduceLT, Int.reduceLE, Int.reduceNeg, Nat.reduceLeDiff, if_true, if_false, ↓reduceIte, forall_const, implies_true, reduceCtorEq, forall_eq_or_imp, forall_eq, ne_eq]
    try exact ⟨rfl, rfl⟩
  | none =>
    rw [hp, resS_none, heapS_none] at hc
    rw [resD_none, heapS_none]
    refine reads_of_V mixed Go.Proofs.Tryz.call8 Go.Proofs.Tryz.func8 rfl (by rw [Go.Proofs.Tryz.ntmps8]; simp) ?_
    simp (maxSteps := 2000000) only [↓ctl, evl, val, valP, own, app, wrt, tys, Tryz.ntmps8, Tryz.results8, ↓V_convert, ↓V_bytes, stdl, cond_true, cond_false, Nat.reduceEqDiff, Nat.reduceAdd, Nat.reduceMul, Nat.reduceSub, Nat.reduceLT, Int.reduceEq, Int.reduceLT, Int.reduceLE, Int.reduceNeg, Nat.reduceLeDiff, if_true, if_false, ↓reduceIte, forall_const, implies_true, reduceCtorEq, forall_eq_or_imp, forall_eq, ne_eq, fsAV]
    refine V_callR mixed (cap := []) (hc) (by simp (maxSteps := 2000000) only [↓ctl, evl, val, valP, own, app, wrt, tys, Tryz.ntmps8, Tryz.results8, ↓V_convert, ↓V_bytes, stdl, cond_true, cond_false, Nat.reduceEqDiff, Nat.reduceAdd, Nat.reduceMul, Nat.reduceSub, Nat.reduceLT, Int.reduceEq, Int.reduceLT, Int.reduceLE, Int.reduceNeg, Nat.reduceLeDiff, if_true, if_false, ↓reduceIte, forall_const, implies_true, reduceCtorEq, forall_eq_or_imp, forall_eq, ne_eq, fsAV]) (by simp (maxSteps := 2000000) only [↓ctl, evl, val, valP, own, app, wrt, tys, Tryz.ntmps8, Tryz.results8, ↓V_convert, ↓V_bytes, stdl, cond_true, cond_false, Nat.reduceEqDiff, Nat.reduceAdd, Nat.reduceMul, Nat.reduceSub, Nat.reduceLT, Int.reduceEq, Int.reduceLT, Int.reduceLE, Int.reduceNeg, Nat.reduceLeDiff, if_true, if_false, ↓reduceIte, forall_const, implies_true, reduceCtorEq, forall_eq_or_imp, forall_eq, ne_eq]) (by simp (maxSteps := 2000000) only [↓ctl, evl, val, valP, own, app, wrt, tys, Tryz.ntmps8, Tryz.results8, ↓V_convert, ↓V_bytes, stdl, cond_true, cond_false, Nat.reduceEqDiff, Nat.reduceAdd, Nat.reduceMul, Nat.reduceSub, Nat.reduceLT, Int.reduceEq, Int.reduceLT, Int.reduceLE, Int.reduceNeg, Nat.reduceLeDiff, if_true, if_false, ↓reduceIte, forall_const, implies_true, reduceCtorEq, forall_eq_or_imp, forall_eq, ne_eq]) trivial ?_
    simp (maxSteps := 2000000) only [↓ctl, evl, val, valP, own, app, wrt, tys, Tryz.ntmps8, Tryz.results8, ↓V_convert, ↓V_bytes, stdl, cond_true, cond_false, Nat.reduceEqDiff, Nat.reduceAdd, Nat.reduceMul, Nat.reduceSub, Nat.reduceLT, Int.reduceEq, Int.reduceLT, Int.reduceLE, Int.reduceNeg, Nat.reduceLeDiff, if_true, if_false, ↓reduceIte, forall_const, implies_true, reduceCtorEq, forall_eq_or_imp, forall_eq, ne_eq]
theorem l_markNil (k : Int) : Gives Go.Proofs.Tryz.prog 34 [.v (.slice none 0 0), I k] (.int .i64 k) := by
  refine gives_of_V mixed Go.Proofs.Tryz.call34 Go.Proofs.Tryz.func34 rfl (by rw [Go.Proofs.Tryz.ntmps34]; simp) ?_
  simp (maxSteps := 2000000) only [↓ctl, evl, val, valP, own, app, wrt, tys, Tryz.ntmps34, Tryz.results34, ↓V_convert, ↓V_bytes, stdl, cond_true, cond_false, Nat.reduceEqDiff, Nat.reduceAdd, Nat.reduceMul, Nat.reduceSub, Nat.reduceLT, Int.reduceEq, Int.reduceLT, Int.reduceLE, Int.reduceNeg, Nat.reduceLeDiff, if_true, if_false, ↓reduceIte, forall_const, implies_true, reduceCtorEq, forall_eq_or_imp, forall_eq, ne_eq]
  refine V_loopI mixed (ι := {i : Nat // i = 0}) (fun i => ⟨[(0, true, .v (.slice none 0 0)), (1, true, I k), (5, true, I i.1)], [], 0, 20⟩) (fun i => 0)  ⟨0, rfl⟩ ?_ ?_ ?_
  · refine weakI ?_
    simp (maxSteps := 2000000) only [↓ctl, evl, val, valP, own, app, wrt, tys, Tryz.ntmps34, Tryz.results34, ↓V_convert, ↓V_bytes, stdl, cond_true, cond_false, Nat.reduceEqDiff, Nat.reduceAdd, Nat.reduceMul, Nat.reduceSub, Nat.reduceLT, Int.reduceEq, Int.reduceLT, Int.reduceLE, Int.reduceNeg, Nat.reduceLeDiff, if_true, if_false, ↓reduceIte, forall_const, implies_true, reduceCtorEq, forall_eq_or_imp, forall_eq, ne_eq]
    try rfl
  · trivial
  rintro ⟨i, hi⟩
  subst hi
  have n0 : ¬ (((0 : Nat) : Int) < 0) := by omega
  simp (maxSteps := 2000000) only [↓ctl, evl, val, valP, own, app, wrt, tys, Tryz.ntmps34, Tryz.results34, ↓V_convert, ↓V_bytes, stdl, cond_true, cond_false, Nat.reduceEqDiff, Nat.reduceAdd, Nat.reduceMul, Nat.reduceSub, Nat.reduceLT, Int.reduceEq, Int.reduceLT, Int.reduceLE, Int.reduceNeg, Nat.reduceLeDiff, if_true, if_false, ↓reduceIte, forall_const, implies_true, reduceCtorEq, forall_eq_or_imp, forall_eq, ne_eq, n0]
theorem l_markWNil (k : Int) : Gives Go.Proofs.Tryz.prog 35 [.v (.slice none 0 0), I k] (.int .i64 k) := by
  refine gives_of_V mixed Go.Proofs.Tryz.call35 Go.Proofs.Tryz.func35 rfl (by rw [Go.Proofs.Tryz.ntmps35]; simp) ?_
  simp (maxSteps := 2000000) only [↓ctl, evl, val, valP, own, app, wrt, tys, Tryz.ntmps35, Tryz.results35, ↓V_convert, ↓V_bytes, stdl, cond_true, cond_false, Nat.reduceEqDiff, Nat.reduceAdd, Nat.reduceMul, Nat.reduceSub, Nat.reduceLT, Int.reduceEq, Int.reduceLT, Int.reduceLE, Int.reduceNeg, Nat.reduceLeDiff, if_true, if_false, ↓reduceIte, forall_const, implies_true, reduceCtorEq, forall_eq_or_imp, forall_eq, ne_eq]
  refine V_loopI mixed (ι := {i : Nat // i = 0}) (fun i => ⟨[(0, true, .v (.slice none 0 0)), (1, true, I k), (5, true, I i.1)], [], 0, 28⟩) (fun i => 0)  ⟨0, rfl⟩ ?_ ?_ ?_
  · refine weakI ?_
    simp (maxSteps := 2000000) only [↓ctl, evl, val, valP, own, app, wrt, tys, Tryz.ntmps35, Tryz.results35, ↓V_convert, ↓V_bytes, stdl, cond_true, cond_false, Nat.reduceEqDiff, Nat.reduceAdd, Nat.reduceMul, Nat.reduceSub, Nat.reduceLT, Int.reduceEq, Int.reduceLT, Int.reduceLE, Int.reduceNeg, Nat.reduceLeDiff, if_true, if_false, ↓reduceIte, forall_const, implies_true, reduceCtorEq, forall_eq_or_imp, forall_eq, ne_eq]
    try rfl
  · trivial
  rintro ⟨i, hi⟩
  subst hi
  have n0 : ¬ (((0 : Nat) : Int) < 0) := by omega
  simp (maxSteps := 2000000) only [↓ctl, evl, val, valP, own, app, wrt, tys, Tryz.ntmps35, Tryz.results35, ↓V_convert, ↓V_bytes, stdl, cond_true, cond_false, Nat.reduceEqDiff, Nat.reduceAdd, Nat.reduceMul, Nat.reduceSub, Nat.reduceLT, Int.reduceEq, Int.reduceLT, Int.reduceLE, Int.reduceNeg, Nat.reduceLeDiff, if_true, if_false, ↓reduceIte, forall_const, implies_true, reduceCtorEq, forall_eq_or_imp, forall_eq, ne_eq, n0]
theorem l_heldWNil (k : Int) : Gives Go.Proofs.Tryz.prog 37 [.v (.slice none 0 0), I k] (.int .i64 k) := by
  refine gives_of_V mixed Go.Proofs.Tryz.call37 Go.Proofs.Tryz.func37 rfl (by rw [Go.Proofs.Tryz.ntmps37]; simp) ?_
  simp (maxSteps := 2000000) only [↓ctl, evl, val, valP, own, app, wrt, tys, Tryz.ntmps37, Tryz.results37, ↓V_convert, ↓V_bytes, stdl, cond_true, cond_false, Nat.reduceEqDiff, Nat.reduceAdd, Nat.reduceMul, Nat.reduceSub, Nat.reduceLT, Int.reduceEq, Int.reduceLT, Int.reduceLE, Int.reduceNeg, Nat.reduceLeDiff, if_true, if_false, ↓reduceIte, forall_const, implies_true, reduceCtorEq, forall_eq_or_imp, forall_eq, ne_eq]
  refine V_loopI mixed (ι := {i : Nat // i = 0}) (fun i => ⟨[(0, true, .v (.slice none 0 0)), (1, true, I k), (5, true, I i.1)], [], 0, 32⟩) (fun i => 0)  ⟨0, rfl⟩ ?_ ?_ ?_
  · refine weakI ?_
    simp (maxSteps := 2000000) only [↓ctl, evl, val, valP, own, app, wrt, tys, Tryz.ntmps37, Tryz.results37, ↓V_convert, ↓V_bytes, stdl, cond_true, cond_false, Nat.reduceEqDiff, Nat.reduceAdd, Nat.reduceMul, Nat.reduceSub, Nat.reduceLT, Int.reduceEq, Int.reduceLT, Int.reduceLE, Int.reduceNeg, Nat.reduceLeDiff, if_true, if_false, ↓reduceIte, forall_const, implies_true, reduceCtorEq, forall_eq_or_imp, forall_eq, ne_eq]
    try rfl
  · trivial
  rintro ⟨i, hi⟩
  subst hi
  have n0 : ¬ (((0 : Nat) : Int) < 0) := by omega
  simp (maxSteps := 2000000) only [↓ctl, evl, val, valP, own, app, wrt, tys, Tryz.ntmps37, Tryz.results37, ↓V_convert, ↓V_bytes, stdl, cond_true, cond_false, Nat.reduceEqDiff, Nat.reduceAdd, Nat.reduceMul, Nat.reduceSub, Nat.reduceLT, Int.reduceEq, Int.reduceLT, Int.reduceLE, Int.reduceNeg, Nat.reduceLeDiff, if_true, if_false, ↓reduceIte, forall_const, implies_true, reduceCtorEq, forall_eq_or_imp, forall_eq, ne_eq, n0]
theorem l_eqWNil : Gives Go.Proofs.Tryz.prog 29 [.v (.slice none 0 0), .v (.slice none 0 0)] (.bool true) := by
  refine gives_of_V mixed Go.Proofs.Tryz.call29 Go.Proofs.Tryz.func29 rfl (by rw [Go.Proofs.Tryz.ntmps29]; simp) ?_
  simp (maxSteps := 2000000) only [↓ctl, evl, val, valP, own, app, wrt, tys, Tryz.ntmps29, Tryz.results29, ↓V_convert, ↓V_bytes, stdl, cond_true, cond_false, Nat.reduceEqDiff, Nat.reduceAdd, Nat.reduceMul, Nat.reduceSub, Nat.reduceLT, Int.reduceEq, Int.reduceLT, Int.reduceLE, Int.reduceNeg, Nat.reduceLeDiff, if_true, if_false, ↓reduceIte, forall_const, implies_true, reduceCtorEq, forall_eq_or_imp, forall_eq, ne_eq]
  refine V_loopI mixed (ι := {i : Nat // i = 0}) (fun i => ⟨[(0, true, .v (.slice none 0 0)), (1, true, .v (.slice none 0 0)), (5, true, I i.1)], [], 0, 27⟩) (fun i => 0)  ⟨0, rfl⟩ ?_ ?_ ?_
  · refine weakI ?_
    simp (maxSteps := 2000000) only [↓ctl, evl, val, valP, own, app, wrt, tys, Tryz.ntmps29, Tryz.results29, ↓V_convert, ↓V_bytes, stdl, cond_true, cond_false, Nat.reduceEqDiff, Nat.reduceAdd, Nat.reduceMul, Nat.reduceSub, Nat.reduceLT, Int.reduceEq, Int.reduceLT, Int.reduceLE, Int.reduceNeg, Nat.reduceLeDiff, if_true, if_false, ↓reduceIte, forall_const, implies_true, reduceCtorEq, forall_eq_or_imp, forall_eq, ne_eq]
    try rfl
  · trivial
  rintro ⟨i, hi⟩
  subst hi
  have n0 : ¬ (((0 : Nat) : Int) < 0) := by omega
  simp (maxSteps := 2000000) only [↓ctl, evl, val, valP, own, app, wrt, tys, Tryz.ntmps29, Tryz.results29, ↓V_convert, ↓V_bytes, stdl, cond_true, cond_false, Nat.reduceEqDiff, Nat.reduceAdd, Nat.reduceMul, Nat.reduceSub, Nat.reduceLT, Int.reduceEq, Int.reduceLT, Int.reduceLE, Int.reduceNeg, Nat.reduceLeDiff, if_true, if_false, ↓reduceIte, forall_const, implies_true, reduceCtorEq, forall_eq_or_imp, forall_eq, ne_eq, n0]
theorem l_eqDisk (a b : List (List UInt8)) (ha : a.length ≤ 1099511627776) (hb : b.length ≤ 1099511627776) : Gives Go.Proofs.Tryz.prog 9 [.agg [.rd 1 (a.map strRow), .v (.slice none 0 0)], .agg [.rd 1 (b.map strRow), .v (.slice none 0 0)]] (.bool (a == b)) := by
  refine gives_of_V mixed Go.Proofs.Tryz.call9 Go.Proofs.Tryz.func9 rfl (by rw [Go.Proofs.Tryz.ntmps9]; simp) ?_
  simp (maxSteps := 2000000) only [↓ctl, evl, val, valP, own, app, wrt, tys, Tryz.ntmps9, Tryz.results9, ↓V_convert, ↓V_bytes, stdl, cond_true, cond_false, Nat.reduceEqDiff, Nat.reduceAdd, Nat.reduceMul, Nat.reduceSub, Nat.reduceLT, Int.reduceEq, Int.reduceLT, Int.reduceLE, Int.reduceNeg, Nat.reduceLeDiff, if_true, if_false, ↓reduceIte, forall_const, implies_true, reduceCtorEq, forall_eq_or_imp, forall_eq, ne_eq]
  refine V_callF mixed (cap := []) (fun _ => l_eqStringS a b ha hb) (by simp (maxSteps := 2000000) (contextual := true) only [↓ctl, evl, val, valP, own, app, wrt, tys, Tryz.ntmps9, Tryz.results9, ↓V_convert, ↓V_bytes, stdl, cond_true, cond_false, Nat.reduceEqDiff, Nat.reduceAdd, Nat.reduceMul, Nat.reduceSub, Nat.reduceLT, Int.reduceEq, Int.reduceLT, Int.reduceLE, Int.reduceNeg, Nat.reduceLeDiff, if_true, if_false, ↓reduceIte, forall_const, implies_true, reduceCtorEq, forall_eq_or_imp, forall_eq, ne_eq]) (by simp (maxSteps := 2000000) (contextual := true) only [↓ctl, evl, val, valP, own, app, wrt, tys, Tryz.ntmps9, Tryz.results9, ↓V_convert, ↓V_bytes, stdl, cond_true, cond_false, Nat.reduceEqDiff, Nat.reduceAdd, Nat.reduceMul, Nat.reduceSub, Nat.reduceLT, Int.reduceEq, Int.reduceLT, Int.reduceLE, Int.reduceNeg, Nat.reduceLeDiff, if_true, if_false, ↓reduceIte, forall_const, implies_true, reduceCtorEq, forall_eq_or_imp, forall_eq, ne_eq]) (by simp (maxSteps := 2000000) (contextual := true) only [↓ctl, evl, val, valP, own, app, wrt, tys, Tryz.ntmps9, Tryz.results9, ↓V_convert, ↓V_bytes, stdl, cond_true, cond_false, Nat.reduceEqDiff, Nat.reduceAdd, Nat.reduceMul, Nat.reduceSub, Nat.reduceLT, Int.reduceEq, Int.reduceLT, Int.reduceLE, Int.reduceNeg, Nat.reduceLeDiff, if_true, if_false, ↓reduceIte, forall_const, implies_true, reduceCtorEq, forall_eq_or_imp, forall_eq, ne_eq]) trivial ?_
  simp (maxSteps := 2000000) only [↓ctl, evl, val, valP, own, app, wrt, tys, Tryz.ntmps9, Tryz.results9, ↓V_convert, ↓V_bytes, stdl, cond_true, cond_false, Nat.reduceEqDiff, Nat.reduceAdd, Nat.reduceMul, Nat.reduceSub, Nat.reduceLT, Int.reduceEq, Int.reduceLT, Int.reduceLE, Int.reduceNeg, Nat.reduceLeDiff, if_true, if_false, ↓reduceIte, forall_const, implies_true, reduceCtorEq, forall_eq_or_imp, forall_eq, ne_eq]
  refine ⟨fun h => (beq_eq_false_iff_ne.2 h).symm, fun h => ?_⟩
  refine V_callF mixed (cap := []) (fun _ => l_eqWNil) (by simp (maxSteps := 2000000) (contextual := true) only [↓ctl, evl, val, valP, own, app, wrt, tys, Tryz.ntmps9, Tryz.results9, ↓V_convert, ↓V_bytes, stdl, cond_true, cond_false, Nat.reduceEqDiff, Nat.reduceAdd, Nat.reduceMul, Nat.reduceSub, Nat.reduceLT, Int.reduceEq, Int.reduceLT, Int.reduceLE, Int.reduceNeg, Nat.reduceLeDiff, if_true, if_false, ↓reduceIte, forall_const, implies_true, reduceCtorEq, forall_eq_or_imp, forall_eq, ne_eq]) (by simp (maxSteps := 2000000) (contextual := true) only [↓ctl, evl, val, valP, own, app, wrt, tys, Tryz.ntmps9, Tryz.results9, ↓V_convert, ↓V_bytes, stdl, cond_true, cond_false, Nat.reduceEqDiff, Nat.reduceAdd, Nat.reduceMul, Nat.reduceSub, Nat.reduceLT, Int.reduceEq, Int.reduceLT, Int.reduceLE, Int.reduceNeg, Nat.reduceLeDiff, if_true, if_false, ↓reduceIte, forall_const, implies_true, reduceCtorEq, forall_eq_or_imp, forall_eq, ne_eq]) (by simp (maxSteps := 2000000) (contextual := true) only [↓ctl, evl, val, valP, own, app, wrt, tys, Tryz.ntmps9, Tryz.results9, ↓V_convert, ↓V_bytes, stdl, cond_true, cond_false, Nat.reduceEqDiff, Nat.reduceAdd, Nat.reduceMul, Nat.reduceSub, Nat.reduceLT, Int.reduceEq, Int.reduceLT, Int.reduceLE, Int.reduceNeg, Nat.reduceLeDiff, if_true, if_false, ↓reduceIte, forall_const, implies_true, reduceCtorEq, forall_eq_or_imp, forall_eq, ne_eq]) trivial ?_
  simp (maxSteps := 2000000) only [↓ctl, evl, val, valP, own, app, wrt, tys, Tryz.ntmps9, Tryz.results9, ↓V_convert, ↓V_bytes, stdl, cond_true, cond_false, Nat.reduceEqDiff, Nat.reduceAdd, Nat.reduceMul, Nat.reduceSub, Nat.reduceLT, Int.reduceEq, Int.reduceLT, Int.reduceLE, Int.reduceNeg, Nat.reduceLeDiff, if_true, if_false, ↓reduceIte, forall_const, implies_true, reduceCtorEq, forall_eq_or_imp, forall_eq, ne_eq]
  exact (beq_iff_eq.2 h).symm
theorem l_heldDisk (k n : Nat) (h0 : 0 < k) (h1 : k + n ≤ 1099511627776) : Gives Go.Proofs.Tryz.prog 13 [.agg [.rd 1 ((marks (mkS k) n).map strRow), .v (.slice none 0 0)], I k] (.int .i64 (k + n : Nat)) := by
  refine gives_of_V mixed Go.Proofs.Tryz.call13 Go.Proofs.Tryz.func13 rfl (by rw [Go.Proofs.Tryz.ntmps13]; simp) ?_
  have n1 : ¬ (((k + n : Nat) : Int) < 0) := by omega
  simp (maxSteps := 2000000) only [↓ctl, evl, val, valP, own, app, wrt, tys, Tryz.ntmps13, Tryz.results13, ↓V_convert, ↓V_bytes, stdl, cond_true, cond_false, Nat.reduceEqDiff, Nat.reduceAdd, Nat.reduceMul, Nat.reduceSub, Nat.reduceLT, Int.reduceEq, Int.reduceLT, Int.reduceLE, Int.reduceNeg, Nat.reduceLeDiff, if_true, if_false, ↓reduceIte, forall_const, implies_true, reduceCtorEq, forall_eq_or_imp, forall_eq, ne_eq]
  refine V_callF mixed (cap := []) (fun _ => l_heldStringS k n h0 h1) (by simp (maxSteps := 2000000) (contextual := true) only [↓ctl, evl, val, valP, own, app, wrt, tys, Tryz.ntmps13, Tryz.results13, ↓V_convert, ↓V_bytes, stdl, cond_true, cond_false, Nat.reduceEqDiff, Nat.reduceAdd, Nat.reduceMul, Nat.reduceSub, Nat.reduceLT, Int.reduceEq, Int.reduceLT, Int.reduceLE, Int.reduceNeg, Nat.reduceLeDiff, if_true, if_false, ↓reduceIte, forall_const, implies_true, reduceCtorEq, forall_eq_or_imp, forall_eq, ne_eq]) (by simp (maxSteps := 2000000) (contextual := true) only [↓ctl, evl, val, valP, own, app, wrt, tys, Tryz.ntmps13, Tryz.results13, ↓V_convert, ↓V_bytes, stdl, cond_true, cond_false, Nat.reduceEqDiff, Nat.reduceAdd, Nat.reduceMul, Nat.reduceSub, Nat.reduceLT, Int.reduceEq, Int.reduceLT, Int.reduceLE, Int.reduceNeg, Nat.reduceLeDiff, if_true, if_false, ↓reduceIte, forall_const, implies_true, reduceCtorEq, forall_eq_or_imp, forall_eq, ne_eq]) (by simp (maxSteps := 2000000) (contextual := true) only [↓ctl, evl, val, valP, own, app, wrt, tys, Tryz.ntmps13, Tryz.results13, ↓V_convert, ↓V_bytes, stdl, cond_true, cond_false, Nat.reduceEqDiff, Nat.reduceAdd, Nat.reduceMul, Nat.reduceSub, Nat.reduceLT, Int.reduceEq, Int.reduceLT, Int.reduceLE, Int.reduceNeg, Nat.reduceLeDiff, if_true, if_false, ↓reduceIte, forall_const, implies_true, reduceCtorEq, forall_eq_or_imp, forall_eq, ne_eq]) trivial ?_
  simp (maxSteps := 2000000) only [↓ctl, evl, val, valP, own, app, wrt, tys, Tryz.ntmps13, Tryz.results13, ↓V_convert, ↓V_bytes, stdl, cond_true, cond_false, Nat.reduceEqDiff, Nat.reduceAdd, Nat.reduceMul, Nat.reduceSub, Nat.reduceLT, Int.reduceEq, Int.reduceLT, Int.reduceLE, Int.reduceNeg, Nat.reduceLeDiff, if_true, if_false, ↓reduceIte, forall_const, implies_true, reduceCtorEq, forall_eq_or_imp, forall_eq, ne_eq, n1]
  refine V_callF mixed (cap := []) (fun _ => l_heldWNil (k + n : Nat)) (by simp (maxSteps := 2000000) (contextual := true) only [↓ctl, evl, val, valP, own, app, wrt, tys, Tryz.ntmps13, Tryz.results13, ↓V_convert, ↓V_bytes, stdl, cond_true, cond_false, Nat.reduceEqDiff, Nat.reduceAdd, Nat.reduceMul, Nat.reduceSub, Nat.reduceLT, Int.reduceEq, Int.reduceLT, Int.reduceLE, Int.reduceNeg, Nat.reduceLeDiff, if_true, if_false, ↓reduceIte, forall_const, implies_true, reduceCtorEq, forall_eq_or_imp, forall_eq, ne_eq]) (by simp (maxSteps := 2000000) (contextual := true) only [↓ctl, evl, val, valP, own, app, wrt, tys, Tryz.ntmps13, Tryz.results13, ↓V_convert, ↓V_bytes, stdl, cond_true, cond_false, Nat.reduceEqDiff, Nat.reduceAdd, Nat.reduceMul, Nat.reduceSub, Nat.reduceLT, Int.reduceEq, Int.reduceLT, Int.reduceLE, Int.reduceNeg, Nat.reduceLeDiff, if_true, if_false, ↓reduceIte, forall_const, implies_true, reduceCtorEq, forall_eq_or_imp, forall_eq, ne_eq]) (by simp (maxSteps := 2000000) (contextual := true) only [↓ctl, evl, val, valP, own, app, wrt, tys, Tryz.ntmps13, Tryz.results13, ↓V_convert, ↓V_bytes, stdl, cond_true, cond_false, Nat.reduceEqDiff, Nat.reduceAdd, Nat.reduceMul, Nat.reduceSub, Nat.reduceLT, Int.reduceEq, Int.reduceLT, Int.reduceLE, Int.reduceNeg, Nat.reduceLeDiff, if_true, if_false, ↓reduceIte, forall_const, implies_true, reduceCtorEq, forall_eq_or_imp, forall_eq, ne_eq]) trivial ?_
  simp (maxSteps := 2000000) only [↓ctl, evl, val, valP, own, app, wrt, tys, Tryz.ntmps13, Tryz.results13, ↓V_convert, ↓V_bytes, stdl, cond_true, cond_false, Nat.reduceEqDiff, Nat.reduceAdd, Nat.reduceMul, Nat.reduceSub, Nat.reduceLT, Int.reduceEq, Int.reduceLT, Int.reduceLE, Int.reduceNeg, Nat.reduceLeDiff, if_true, if_false, ↓reduceIte, forall_const, implies_true, reduceCtorEq, forall_eq_or_imp, forall_eq, ne_eq, n1]
theorem l_markDisk (a : List (List UInt8)) (k : Nat) (h0 : 0 < k) (h1 : k + 1 * a.length ≤ 1099511627776) : Turns Go.Proofs.Tryz.prog 12 [.agg [.sl 0 1 0 a.length, .v (.slice none 0 0)], I k] 1 [(0, .row 9 1 (a.map strRow))] (.int .i64 (k + 1 * a.length : Nat)) [(0, .row 9 1 ((marks (mkS k) a.length).map strRow))] := by
  refine turns_of_V mixed Go.Proofs.Tryz.call12 Go.Proofs.Tryz.func12 rfl (by rw [Go.Proofs.Tryz.ntmps12]; simp) (by simp (maxSteps := 2000000) only [↓ctl, evl, val, valP, own, app, wrt, tys, Tryz.ntmps12, Tryz.results12, ↓V_convert, ↓V_bytes, stdl, cond_true, cond_false, Nat.reduceEqDiff, Nat.reduceAdd, Nat.reduceMul, Nat.reduceSub, Nat.reduceLT, Int.reduceEq, Int.reduceLT, Int.reduceLE, Int.reduceNeg, Nat.reduceLeDiff, if_true, if_false, ↓reduceIte, forall_const, implies_true, reduceCtorEq, forall_eq_or_imp, forall_eq, ne_eq]) fun o z => ?_
  simp (maxSteps := 2000000) only [↓ctl, evl, val, valP, own, app, wrt, tys, Tryz.ntmps12, Tryz.results12, ↓V_convert, ↓V_bytes, stdl, cond_true, cond_false, Nat.reduceEqDiff, Nat.reduceAdd, Nat.reduceMul, Nat.reduceSub, Nat.reduceLT, Int.reduceEq, Int.reduceLT, Int.reduceLE, Int.reduceNeg, Nat.reduceLeDiff, if_true, if_false, ↓reduceIte, forall_const, implies_true, reduceCtorEq, forall_eq_or_imp, forall_eq, ne_eq]
  refine V_callT mixed (cap := []) [0]  ( l_markStringS a k h0 h1) (by simp (maxSteps := 2000000) only [↓ctl, evl, val, valP, own, app, wrt, tys, Tryz.ntmps12, Tryz.results12, ↓V_convert, ↓V_bytes, stdl, cond_true, cond_false, Nat.reduceEqDiff, Nat.reduceAdd, Nat.reduceMul, Nat.reduceSub, Nat.reduceLT, Int.reduceEq, Int.reduceLT, Int.reduceLE, Int.reduceNeg, Nat.reduceLeDiff, if_true, if_false, ↓reduceIte, forall_const, implies_true, reduceCtorEq, forall_eq_or_imp, forall_eq, ne_eq]) (by decide) (by simp (maxSteps := 2000000) only [↓ctl, evl, val, valP, own, app, wrt, tys, Tryz.ntmps12, Tryz.results12, ↓V_convert, ↓V_bytes, stdl, cond_true, cond_false, Nat.reduceEqDiff, Nat.reduceAdd, Nat.reduceMul, Nat.reduceSub, Nat.reduceLT, Int.reduceEq, Int.reduceLT, Int.reduceLE, Int.reduceNeg, Nat.reduceLeDiff, if_true, if_false, ↓reduceIte, forall_const, implies_true, reduceCtorEq, forall_eq_or_imp, forall_eq, ne_eq]) (by simp (maxSteps := 2000000) only [↓ctl, evl, val, valP, own, app, wrt, tys, Tryz.ntmps12, Tryz.results12, ↓V_convert, ↓V_bytes, stdl, cond_true, cond_false, Nat.reduceEqDiff, Nat.reduceAdd, Nat.reduceMul, Nat.reduceSub, Nat.reduceLT, Int.reduceEq, Int.reduceLT, Int.reduceLE, Int.reduceNeg, Nat.reduceLeDiff, if_true, if_false, ↓reduceIte, forall_const, implies_true, reduceCtorEq, forall_eq_or_imp, forall_eq, ne_eq]) trivial ?_
  simp (maxSteps := 2000000) only [↓ctl, evl, val, valP, own, app, wrt, tys, Tryz.ntmps12, Tryz.results12, ↓V_convert, ↓V_bytes, stdl, cond_true, cond_false, Nat.reduceEqDiff, Nat.reduceAdd, Nat.reduceMul, Nat.reduceSub, Nat.reduceLT, Int.reduceEq, Int.reduceLT, Int.reduceLE, Int.reduceNeg, Nat.reduceLeDiff, if_true, if_false, ↓reduceIte, forall_const, implies_true, reduceCtorEq, forall_eq_or_imp, forall_eq, ne_eq]
  refine V_callF mixed (cap := []) (fun _ => l_markWNil (k + 1 * a.length : Nat)) (by simp (maxSteps := 2000000) (contextual := true) only [↓ctl, evl, val, valP, own, app, wrt, tys, Tryz.ntmps12, Tryz.results12, ↓V_convert, ↓V_bytes, stdl, cond_true, cond_false, Nat.reduceEqDiff, Nat.reduceAdd, Nat.reduceMul, Nat.reduceSub, Nat.reduceLT, Int.reduceEq, Int.reduceLT, Int.reduceLE, Int.reduceNeg, Nat.reduceLeDiff, if_true, if_false, ↓reduceIte, forall_const, implies_true, reduceCtorEq, forall_eq_or_imp, forall_eq, ne_eq]) (by simp (maxSteps := 2000000) (contextual := true) only [↓ctl, evl, val, valP, own, app, wrt, tys, Tryz.ntmps12, Tryz.results12, ↓V_convert, ↓V_bytes, stdl, cond_true, cond_false, Nat.reduceEqDiff, Nat.reduceAdd, Nat.reduceMul, Nat.reduceSub, Nat.reduceLT, Int.reduceEq, Int.reduceLT, Int.reduceLE, Int.reduceNeg, Nat.reduceLeDiff, if_true, if_false, ↓reduceIte, forall_const, implies_true, reduceCtorEq, forall_eq_or_imp, forall_eq, ne_eq]) (by simp (maxSteps := 2000000) (contextual := true) only [↓ctl, evl, val, valP, own, app, wrt, tys, Tryz.ntmps12, Tryz.results12, ↓V_convert, ↓V_bytes, stdl, cond_true, cond_false, Nat.reduceEqDiff, Nat.reduceAdd, Nat.reduceMul, Nat.reduceSub, Nat.reduceLT, Int.reduceEq, Int.reduceLT, Int.reduceLE, Int.reduceNeg, Nat.reduceLeDiff, if_true, if_false, ↓reduceIte, forall_const, implies_true, reduceCtorEq, forall_eq_or_imp, forall_eq, ne_eq]) trivial ?_
  simp (maxSteps := 2000000) only [↓ctl, evl, val, valP, own, app, wrt, tys, Tryz.ntmps12, Tryz.results12, ↓V_convert, ↓V_bytes, stdl, cond_true, cond_false, Nat.reduceEqDiff, Nat.reduceAdd, Nat.reduceMul, Nat.reduceSub, Nat.reduceLT, Int.reduceEq, Int.reduceLT, Int.reduceLE, Int.reduceNeg, Nat.reduceLeDiff, if_true, if_false, ↓reduceIte, forall_const, implies_true, reduceCtorEq, forall_eq_or_imp, forall_eq, ne_eq]
theorem l_markDNil (k : Int) : Gives Go.Proofs.Tryz.prog 12 [.agg [.v (.slice none 0 0), .v (.slice none 0 0)], I k] (.int .i64 k) := by
  refine gives_of_V mixed Go.Proofs.Tryz.call12 Go.Proofs.Tryz.func12 rfl (by rw [Go.Proofs.Tryz.ntmps12]; simp) ?_
  simp (maxSteps := 2000000) only [↓ctl, evl, val, valP, own, app, wrt, tys, Tryz.ntmps12, Tryz.results12, ↓V_convert, ↓V_bytes, stdl, cond_true, cond_false, Nat.reduceEqDiff, Nat.reduceAdd, Nat.reduceMul, Nat.reduceSub, Nat.reduceLT, Int.reduceEq, Int.reduceLT, Int.reduceLE, Int.reduceNeg, Nat.reduceLeDiff, if_true, if_false, ↓reduceIte, forall_const, implies_true, reduceCtorEq, forall_eq_or_imp, forall_eq, ne_eq]
  refine V_callF mixed (cap := []) (fun _ => l_markNil k) (by simp (maxSteps := 2000000) (contextual := true) only [↓ctl, evl, val, valP, own, app, wrt, tys, Tryz.ntmps12, Tryz.results12, ↓V_convert, ↓V_bytes, stdl, cond_true, cond_false, Nat.reduceEqDiff, Nat.reduceAdd, Nat.reduceMul, Nat.reduceSub, Nat.reduceLT, Int.reduceEq, Int.reduceLT, Int.reduceLE, Int.reduceNeg, Nat.reduceLeDiff, if_true, if_false, ↓reduceIte, forall_const, implies_true, reduceCtorEq, forall_eq_or_imp, forall_eq, ne_eq]) (by simp (maxSteps := 2000000) (contextual := true) only [↓ctl, evl, val, valP, own, app, wrt, tys, Tryz.ntmps12, Tryz.results12, ↓V_convert, ↓V_bytes, stdl, cond_true, cond_false, Nat.reduceEqDiff, Nat.reduceAdd, Nat.reduceMul, Nat.reduceSub, Nat.reduceLT, Int.reduceEq, Int.reduceLT, Int.reduceLE, Int.reduceNeg, Nat.reduceLeDiff, if_true, if_false, ↓reduceIte, forall_const, implies_true, reduceCtorEq, forall_eq_or_imp, forall_eq, ne_eq]) (by simp (maxSteps := 2000000) (contextual := true) only [↓ctl, evl, val, valP, own, app, wrt, tys, Tryz.ntmps12, Tryz.results12, ↓V_convert, ↓V_bytes, stdl, cond_true, cond_false, Nat.reduceEqDiff, Nat.reduceAdd, Nat.reduceMul, Nat.reduceSub, Nat.reduceLT, Int.reduceEq, Int.reduceLT, Int.reduceLE, Int.reduceNeg, Nat.reduceLeDiff, if_true, if_false, ↓reduceIte, forall_const, implies_true, reduceCtorEq, forall_eq_or_imp, forall_eq, ne_eq]) trivial ?_
  simp (maxSteps := 2000000) only [↓ctl, evl, val, valP, own, app, wrt, tys, Tryz.ntmps12, Tryz.results12, ↓V_convert, ↓V_bytes, stdl, cond_true, cond_false, Nat.reduceEqDiff, Nat.reduceAdd, Nat.reduceMul, Nat.reduceSub, Nat.reduceLT, Int.reduceEq, Int.reduceLT, Int.reduceLE, Int.reduceNeg, Nat.reduceLeDiff, if_true, if_false, ↓reduceIte, forall_const, implies_true, reduceCtorEq, forall_eq_or_imp, forall_eq, ne_eq]
  refine V_callF mixed (cap := []) (fun _ => l_markWNil k) (by simp (maxSteps := 2000000) (contextual := true) only [↓ctl, evl, val, valP, own, app, wrt, tys, Tryz.ntmps12, Tryz.results12, ↓V_convert, ↓V_bytes, stdl, cond_true, cond_false, Nat.reduceEqDiff, Nat.reduceAdd, Nat.reduceMul, Nat.reduceSub, Nat.reduceLT, Int.reduceEq, Int.reduceLT, Int.reduceLE, Int.reduceNeg, Nat.reduceLeDiff, if_true, if_false, ↓reduceIte, forall_const, implies_true, reduceCtorEq, forall_eq_or_imp, forall_eq, ne_eq]) (by simp (maxSteps := 2000000) (contextual := true) only [↓ctl, evl, val, valP, own, app, wrt, tys, Tryz.ntmps12, Tryz.results12, ↓V_convert, ↓V_bytes, stdl, cond_true, cond_false, Nat.reduceEqDiff, Nat.reduceAdd, Nat.reduceMul, Nat.reduceSub, Nat.reduceLT, Int.reduceEq, Int.reduceLT, Int.reduceLE, Int.reduceNeg, Nat.reduceLeDiff, if_true, if_false, ↓reduceIte, forall_const, implies_true, reduceCtorEq, forall_eq_or_imp, forall_eq, ne_eq]) (by simp (maxSteps := 2000000) (contextual := true) only [↓ctl, evl, val, valP, own, app, wrt, tys, Tryz.ntmps12, Tryz.results12, ↓V_convert, ↓V_bytes, stdl, cond_true, cond_false, Nat.reduceEqDiff, Nat.reduceAdd, Nat.reduceMul, Nat.reduceSub, Nat.reduceLT, Int.reduceEq, Int.reduceLT, Int.reduceLE, Int.reduceNeg, Nat.reduceLeDiff, if_true, if_false, ↓reduceIte, forall_const, implies_true, reduceCtorEq, forall_eq_or_imp, forall_eq, ne_eq]) trivial ?_
  simp (maxSteps := 2000000) only [↓ctl, evl, val, valP, own, app, wrt, tys, Tryz.ntmps12, Tryz.results12, ↓V_convert, ↓V_bytes, stdl, cond_true, cond_false, Nat.reduceEqDiff, Nat.reduceAdd, Nat.reduceMul, Nat.reduceSub, Nat.reduceLT, Int.reduceEq, Int.reduceLT, Int.reduceLE, Int.reduceNeg, Nat.reduceLeDiff, if_true, if_false, ↓reduceIte, forall_const, implies_true, reduceCtorEq, forall_eq_or_imp, forall_eq, ne_eq]
end Go.Proofs.YtobnbajakenbeaaGreat


/- The law FnExactFormatFS: its walk.  -/
set_option linter.all false
set_option maxRecDepth 10000
set_option maxHeartbeats 4000000
namespace Go.Proofs.YtobnbajakenbeaaGreat
open Go Go.Eng

theorem sum_ge {α : Type} (g : α → Nat) : ∀ (l : List α), ∀ a ∈ l, g a ≤ (l.map g).sum
  | [], a, h => by simp at h
  | x :: l, a, h => by
    simp only [List.map_cons, List.sum_cons]
    rcases List.mem_cons.1 h with rfl | h
    · omega
    · have := sum_ge g l a h; omega
theorem cntL_wt (l : List Inode) : cntL l ≤ 7 * l.length + 3 * sumN l := by
  unfold cntL sumN
  induction l with
  | nil => simp
  | cons n l ih => simp only [List.map_cons, List.sum_cons, List.length_cons]; unfold cntN wtN at *; omega
structure FS.tiny (f : FS) : Prop where
  ok : f.ok
  sml : f.sml
  fits : f.fits
  cnt : 1 + 2 * f.quotas.length + cntL f.inodes + 1 * f.data.length ≤ 1099511627776
  pk : (packed f).length ≤ 549755813888
theorem FS.tiny_of {f : FS} (hr : ∀ n ∈ f.inodes, In64 n.size) (h : wtFS f ≤ 1048576) : f.tiny := by
  unfold wtFS wtNs wtS at h
  have hn : ∀ n ∈ f.inodes, n.sml := fun n hn => by
    have := sum_ge wtN f.inodes n hn
    unfold sumN at h; unfold wtN at *; unfold Inode.sml; omega
  have ht : ∀ s ∈ f.data, s.length ≤ 1048576 := fun s hs => by
    have := sum_ge List.length f.data s hs
    unfold sumL at h; omega
  have hc := cntL_wt f.inodes
  have hm := midS_len f f.inodes.length
  refine ⟨⟨by omega, by omega, by omega, fun n h => ⟨hn n h, hr n h⟩, ht⟩, ⟨by omega, by omega, by omega, hn⟩, ⟨by omega, by omega, by omega, fun n h => (hn n h).fits⟩, by omega, ?_⟩
  rw [packed_mid, List.length_append]; omega
theorem l_markFS1 (f : FS) (h1 : 1 + 2 * f.quotas.length + cntL f.inodes + 1 * f.data.length ≤ 1099511627776) (ha : f.inodes.length ≤ 1099511627776) : Turns Go.Proofs.Tryz.prog 11 [.agg [I f.tick, .sl 0 2 0 f.quotas.length, .sl 1 10 0 f.inodes.length, .sl 2 1 0 f.data.length], I 1] 3
    [(0, .row 78 2 (f.quotas.map quotaRow)), (1, .row 81 10 (f.inodes.map inodeRow)), (2, .row 9 1 (f.data.map strRow))] (.int .i64 (1 + 2 * f.quotas.length + cntL f.inodes + 1 * f.data.length : Nat))
    [(0, .row 78 2 ((marks (mkQ 1) f.quotas.length).map quotaRow)), (1, .row 81 10 ((mkNs (1 + 2 * f.quotas.length) f.inodes).map inodeRow)), (2, .row 9 1 ((marks (mkS (1 + 2 * f.quotas.length + cntL f.inodes)) f.data.length).map strRow))] := l_markFS f 1 (by omega) h1 ha
theorem l_markD1 (a : List (List UInt8)) (h1 : 1 + 1 * a.length ≤ 1099511627776) : Turns Go.Proofs.Tryz.prog 12 [.agg [.sl 0 1 0 a.length, .v (.slice none 0 0)], I 1] 1 [(0, .row 9 1 (a.map strRow))] (.int .i64 (1 + a.length : Nat)) [(0, .row 9 1 ((marks (mkS 1) a.length).map strRow))] := by
  have := l_markDisk a 1 (by omega) h1
  rw [Nat.one_mul] at this
  exact this
theorem l_heldD1 (n : Nat) (h1 : 1 + n ≤ 1099511627776) : Gives Go.Proofs.Tryz.prog 13 [.agg [.rd 1 ((marks (mkS 1) n).map strRow), .v (.slice none 0 0)], I 1] (.int .i64 (1 + n : Nat)) := l_heldDisk 1 n (by omega) h1
theorem l_heldD1Nil : Gives Go.Proofs.Tryz.prog 13 [.agg [.rd 1 [], .v (.slice none 0 0)], I 1] (.int .i64 1) := l_heldDisk 1 0 (by omega) (by omega)
theorem l_eqDNil : Gives Go.Proofs.Tryz.prog 9 [.agg [.rd 1 [], .v (.slice none 0 0)], .agg [.rd 1 [], .v (.slice none 0 0)]] (.bool true) := l_eqDisk [] [] (by simp) (by simp)
theorem l_eqDSame (l : List (List UInt8)) (h : l.length ≤ 1099511627776) : Gives Go.Proofs.Tryz.prog 9 [.agg [.rd 1 (l.map strRow), .v (.slice none 0 0)], .agg [.rd 1 (l.map strRow), .v (.slice none 0 0)]] (.bool true) := by
  have := l_eqDisk l l h h
  rw [beq_self_eq_true] at this
  exact this
theorem l_FnExactFormatFS (f : FS) (hr : f.read) : Gives Go.Proofs.Tryz.prog 3 [fsAV f] (.bool true) := by
  refine gives_of_V mixed Go.Proofs.Tryz.call3 Go.Proofs.Tryz.func3 rfl (by rw [Go.Proofs.Tryz.ntmps3]; simp) ?_
  simp (maxSteps := 2000000) only [↓ctl, evl, val, valP, own, app, ↓ctlM, wrt, tys, Tryz.ntmps3, Tryz.results3, ↓V_convert, ↓V_bytes, stdl, cond_true, cond_false, Nat.reduceEqDiff, Nat.reduceAdd, Nat.reduceMul, Nat.reduceSub, Nat.reduceLT, Int.reduceEq, Int.reduceLT, Int.reduceLE, Int.reduceNeg, Nat.reduceLeDiff, if_true, if_false, ↓reduceIte, forall_const, implies_true, reduceCtorEq, forall_eq_or_imp, forall_eq, ne_eq, fsAV]
  refine V_callF mixed (cap := []) (fun _ => l_szFS f 1048576 (by omega) (by omega) hr.big) (by simp (maxSteps := 2000000) (contextual := true) only [↓ctl, evl, val, valP, own, app, ↓ctlM, wrt, tys, Tryz.ntmps3, Tryz.results3, ↓V_convert, ↓V_bytes, stdl, cond_true, cond_false, Nat.reduceEqDiff, Nat.reduceAdd, Nat.reduceMul, Nat.reduceSub, Nat.reduceLT, Int.reduceEq, Int.reduceLT, Int.reduceLE, Int.reduceNeg, Nat.reduceLeDiff, if_true, if_false, ↓reduceIte, forall_const, implies_true, reduceCtorEq, forall_eq_or_imp, forall_eq, ne_eq, fsAV]) (by simp (maxSteps := 2000000) (contextual := true) only [↓ctl, evl, val, valP, own, app, ↓ctlM, wrt, tys, Tryz.ntmps3, Tryz.results3, ↓V_convert, ↓V_bytes, stdl, cond_true, cond_false, Nat.reduceEqDiff, Nat.reduceAdd, Nat.reduceMul, Nat.reduceSub, Nat.reduceLT, Int.reduceEq, Int.reduceLT, Int.reduceLE, Int.reduceNeg, Nat.reduceLeDiff, if_true, if_false, ↓reduceIte, forall_const, implies_true, reduceCtorEq, forall_eq_or_imp, forall_eq, ne_eq]) (by simp (maxSteps := 2000000) (contextual := true) only [↓ctl, evl, val, valP, own, app, ↓ctlM, wrt, tys, Tryz.ntmps3, Tryz.results3, ↓V_convert, ↓V_bytes, stdl, cond_true, cond_false, Nat.reduceEqDiff, Nat.reduceAdd, Nat.reduceMul, Nat.reduceSub, Nat.reduceLT, Int.reduceEq, Int.reduceLT, Int.reduceLE, Int.reduceNeg, Nat.reduceLeDiff, if_true, if_false, ↓reduceIte, forall_const, implies_true, reduceCtorEq, forall_eq_or_imp, forall_eq, ne_eq]) trivial ?_
  simp (maxSteps := 2000000) only [↓ctl, evl, val, valP, own, app, ↓ctlM, wrt, tys, Tryz.ntmps3, Tryz.results3, ↓V_convert, ↓V_bytes, stdl, cond_true, cond_false, Nat.reduceEqDiff, Nat.reduceAdd, Nat.reduceMul, Nat.reduceSub, Nat.reduceLT, Int.reduceEq, Int.reduceLT, Int.reduceLE, Int.reduceNeg, Nat.reduceLeDiff, if_true, if_false, ↓reduceIte, forall_const, implies_true, reduceCtorEq, forall_eq_or_imp, forall_eq, ne_eq]
  intro h
  have ht := FS.tiny_of hr.sizes (show wtFS f ≤ 1048576 by have := spend_ge (by omega) h; omega)
  have hpk := ht.pk
  have tq : List.take f.quotas.length (List.map quotaRow f.quotas) = List.map quotaRow f.quotas := List.take_of_length_le (by simp)
  have tn : List.take f.inodes.length (List.map inodeRow f.inodes) = List.map inodeRow f.inodes := List.take_of_length_le (by simp)
  have td : List.take f.data.length (List.map strRow f.data) = List.map strRow f.data := List.take_of_length_le (by simp)
  have n0 : ¬ (((1 + 2 * f.quotas.length + cntL f.inodes + 1 * f.data.length : Nat) : Int) < 0) := by omega
  have hi20 := ht.fits.2.1
  refine V_callR mixed (cap := []) (l_toFS f ht.sml) (by simp (maxSteps := 2000000) only [↓ctl, evl, val, valP, own, app, ↓ctlM, wrt, tys, Tryz.ntmps3, Tryz.results3, ↓V_convert, ↓V_bytes, stdl, cond_true, cond_false, Nat.reduceEqDiff, Nat.reduceAdd, Nat.reduceMul, Nat.reduceSub, Nat.reduceLT, Int.reduceEq, Int.reduceLT, Int.reduceLE, Int.reduceNeg, Nat.reduceLeDiff, if_true, if_false, ↓reduceIte, forall_const, implies_true, reduceCtorEq, forall_eq_or_imp, forall_eq, ne_eq, fsAV]) (by simp (maxSteps := 2000000) only [↓ctl, evl, val, valP, own, app, ↓ctlM, wrt, tys, Tryz.ntmps3, Tryz.results3, ↓V_convert, ↓V_bytes, stdl, cond_true, cond_false, Nat.reduceEqDiff, Nat.reduceAdd, Nat.reduceMul, Nat.reduceSub, Nat.reduceLT, Int.reduceEq, Int.reduceLT, Int.reduceLE, Int.reduceNeg, Nat.reduceLeDiff, if_true, if_false, ↓reduceIte, forall_const, implies_true, reduceCtorEq, forall_eq_or_imp, forall_eq, ne_eq]) (by simp (maxSteps := 2000000) only [↓ctl, evl, val, valP, own, app, ↓ctlM, wrt, tys, Tryz.ntmps3, Tryz.results3, ↓V_convert, ↓V_bytes, stdl, cond_true, cond_false, Nat.reduceEqDiff, Nat.reduceAdd, Nat.reduceMul, Nat.reduceSub, Nat.reduceLT, Int.reduceEq, Int.reduceLT, Int.reduceLE, Int.reduceNeg, Nat.reduceLeDiff, if_true, if_false, ↓reduceIte, forall_const, implies_true, reduceCtorEq, forall_eq_or_imp, forall_eq, ne_eq]) trivial ?_
  simp (maxSteps := 2000000) only [↓ctl, evl, val, valP, own, app, ↓ctlM, wrt, tys, Tryz.ntmps3, Tryz.results3, ↓V_convert, ↓V_bytes, stdl, cond_true, cond_false, Nat.reduceEqDiff, Nat.reduceAdd, Nat.reduceMul, Nat.reduceSub, Nat.reduceLT, Int.reduceEq, Int.reduceLT, Int.reduceLE, Int.reduceNeg, Nat.reduceLeDiff, if_true, if_false, ↓reduceIte, forall_const, implies_true, reduceCtorEq, forall_eq_or_imp, forall_eq, ne_eq]
  cases hP : packO f with
  | none =>
    have hd := d_FormatFS f ht.ok
    have hc := c_FormatFS f ht.ok
    rw [hP, resD_none, heapS_none] at hd hc
    refine V_callR mixed (cap := []) (hd) (by simp (maxSteps := 2000000) only [↓ctl, evl, val, valP, own, app, ↓ctlM, wrt, tys, Tryz.ntmps3, Tryz.results3, ↓V_convert, ↓V_bytes, stdl, cond_true, cond_false, Nat.reduceEqDiff, Nat.reduceAdd, Nat.reduceMul, Nat.reduceSub, Nat.reduceLT, Int.reduceEq, Int.reduceLT, Int.reduceLE, Int.reduceNeg, Nat.reduceLeDiff, if_true, if_false, ↓reduceIte, forall_const, implies_true, reduceCtorEq, forall_eq_or_imp, forall_eq, ne_eq, fsAV, Nat.le_refl, tq, tn, td]) (by simp (maxSteps := 2000000) only [↓ctl, evl, val, valP, own, app, ↓ctlM, wrt, tys, Tryz.ntmps3, Tryz.results3, ↓V_convert, ↓V_bytes, stdl, cond_true, cond_false, Nat.reduceEqDiff, Nat.reduceAdd, Nat.reduceMul, Nat.reduceSub, Nat.reduceLT, Int.reduceEq, Int.reduceLT, Int.reduceLE, Int.reduceNeg, Nat.reduceLeDiff, if_true, if_false, ↓reduceIte, forall_const, implies_true, reduceCtorEq, forall_eq_or_imp, forall_eq, ne_eq]) (by simp (maxSteps := 2000000) only [↓ctl, evl, val, valP, own, app, ↓ctlM, wrt, tys, Tryz.ntmps3, Tryz.results3, ↓V_convert, ↓V_bytes, stdl, cond_true, cond_false, Nat.reduceEqDiff, Nat.reduceAdd, Nat.reduceMul, Nat.reduceSub, Nat.reduceLT, Int.reduceEq, Int.reduceLT, Int.reduceLE, Int.reduceNeg, Nat.reduceLeDiff, if_true, if_false, ↓reduceIte, forall_const, implies_true, reduceCtorEq, forall_eq_or_imp, forall_eq, ne_eq]) trivial ?_
    simp (maxSteps := 2000000) only [↓ctl, evl, val, valP, own, app, ↓ctlM, wrt, tys, Tryz.ntmps3, Tryz.results3, ↓V_convert, ↓V_bytes, stdl, cond_true, cond_false, Nat.reduceEqDiff, Nat.reduceAdd, Nat.reduceMul, Nat.reduceSub, Nat.reduceLT, Int.reduceEq, Int.reduceLT, Int.reduceLE, Int.reduceNeg, Nat.reduceLeDiff, if_true, if_false, ↓reduceIte, forall_const, implies_true, reduceCtorEq, forall_eq_or_imp, forall_eq, ne_eq]
    refine V_callR mixed (cap := []) (l_toFS f ht.sml) (by simp (maxSteps := 2000000) only [↓ctl, evl, val, valP, own, app, ↓ctlM, wrt, tys, Tryz.ntmps3, Tryz.results3, ↓V_convert, ↓V_bytes, stdl, cond_true, cond_false, Nat.reduceEqDiff, Nat.reduceAdd, Nat.reduceMul, Nat.reduceSub, Nat.reduceLT, Int.reduceEq, Int.reduceLT, Int.reduceLE, Int.reduceNeg, Nat.reduceLeDiff, if_true, if_false, ↓reduceIte, forall_const, implies_true, reduceCtorEq, forall_eq_or_imp, forall_eq, ne_eq, fsAV]) (by simp (maxSteps := 2000000) only [↓ctl, evl, val, valP, own, app, ↓ctlM, wrt, tys, Tryz.ntmps3, Tryz.results3, ↓V_convert, ↓V_bytes, stdl, cond_true, cond_false, Nat.reduceEqDiff, Nat.reduceAdd, Nat.reduceMul, Nat.reduceSub, Nat.reduceLT, Int.reduceEq, Int.reduceLT, Int.reduceLE, Int.reduceNeg, Nat.reduceLeDiff, if_true, if_false, ↓reduceIte, forall_const, implies_true, reduceCtorEq, forall_eq_or_imp, forall_eq, ne_eq]) (by simp (maxSteps := 2000000) only [↓ctl, evl, val, valP, own, app, ↓ctlM, wrt, tys, Tryz.ntmps3, Tryz.results3, ↓V_convert, ↓V_bytes, stdl, cond_true, cond_false, Nat.reduceEqDiff, Nat.reduceAdd, Nat.reduceMul, Nat.reduceSub, Nat.reduceLT, Int.reduceEq, Int.reduceLT, Int.reduceLE, Int.reduceNeg, Nat.reduceLeDiff, if_true, if_false, ↓reduceIte, forall_const, implies_true, reduceCtorEq, forall_eq_or_imp, forall_eq, ne_eq]) trivial ?_
    simp (maxSteps := 2000000) only [↓ctl, evl, val, valP, own, app, ↓ctlM, wrt, tys, Tryz.ntmps3, Tryz.results3, ↓V_convert, ↓V_bytes, stdl, cond_true, cond_false, Nat.reduceEqDiff, Nat.reduceAdd, Nat.reduceMul, Nat.reduceSub, Nat.reduceLT, Int.reduceEq, Int.reduceLT, Int.reduceLE, Int.reduceNeg, Nat.reduceLeDiff, if_true, if_false, ↓reduceIte, forall_const, implies_true, reduceCtorEq, forall_eq_or_imp, forall_eq, ne_eq]
    refine V_callR mixed (cap := []) (hc) (by simp (maxSteps := 2000000) only [↓ctl, evl, val, valP, own, app, ↓ctlM, wrt, tys, Tryz.ntmps3, Tryz.results3, ↓V_convert, ↓V_bytes, stdl, cond_true, cond_false, Nat.reduceEqDiff, Nat.reduceAdd, Nat.reduceMul, Nat.reduceSub, Nat.reduceLT, Int.reduceEq, Int.reduceLT, Int.reduceLE, Int.reduceNeg, Nat.reduceLeDiff, if_true, if_false, ↓reduceIte, forall_const, implies_true, reduceCtorEq, forall_eq_or_imp, forall_eq, ne_eq, fsAV, Nat.le_refl, tq, tn, td]) (by simp (maxSteps := 2000000) only [↓ctl, evl, val, valP, own, app, ↓ctlM, wrt, tys, Tryz.ntmps3, Tryz.results3, ↓V_convert, ↓V_bytes, stdl, cond_true, cond_false, Nat.reduceEqDiff, Nat.reduceAdd, Nat.reduceMul, Nat.reduceSub, Nat.reduceLT, Int.reduceEq, Int.reduceLT, Int.reduceLE, Int.reduceNeg, Nat.reduceLeDiff, if_true, if_false, ↓reduceIte, forall_const, implies_true, reduceCtorEq, forall_eq_or_imp, forall_eq, ne_eq]) (by simp (maxSteps := 2000000) only [↓ctl, evl, val, valP, own, app, ↓ctlM, wrt, tys, Tryz.ntmps3, Tryz.results3, ↓V_convert, ↓V_bytes, stdl, cond_true, cond_false, Nat.reduceEqDiff, Nat.reduceAdd, Nat.reduceMul, Nat.reduceSub, Nat.reduceLT, Int.reduceEq, Int.reduceLT, Int.reduceLE, Int.reduceNeg, Nat.reduceLeDiff, if_true, if_false, ↓reduceIte, forall_const, implies_true, reduceCtorEq, forall_eq_or_imp, forall_eq, ne_eq]) trivial ?_
    simp (maxSteps := 2000000) only [↓ctl, evl, val, valP, own, app, ↓ctlM, wrt, tys, Tryz.ntmps3, Tryz.results3, ↓V_convert, ↓V_bytes, stdl, cond_true, cond_false, Nat.reduceEqDiff, Nat.reduceAdd, Nat.reduceMul, Nat.reduceSub, Nat.reduceLT, Int.reduceEq, Int.reduceLT, Int.reduceLE, Int.reduceNeg, Nat.reduceLeDiff, if_true, if_false, ↓reduceIte, forall_const, implies_true, reduceCtorEq, forall_eq_or_imp, forall_eq, ne_eq]
    refine V_callF mixed (cap := []) (fun _ => l_eqDNil) (by simp (maxSteps := 2000000) (contextual := true) only [↓ctl, evl, val, valP, own, app, ↓ctlM, wrt, tys, Tryz.ntmps3, Tryz.results3, ↓V_convert, ↓V_bytes, stdl, cond_true, cond_false, Nat.reduceEqDiff, Nat.reduceAdd, Nat.reduceMul, Nat.reduceSub, Nat.reduceLT, Int.reduceEq, Int.reduceLT, Int.reduceLE, Int.reduceNeg, Nat.reduceLeDiff, if_true, if_false, ↓reduceIte, forall_const, implies_true, reduceCtorEq, forall_eq_or_imp, forall_eq, ne_eq]) (by simp (maxSteps := 2000000) (contextual := true) only [↓ctl, evl, val, valP, own, app, ↓ctlM, wrt, tys, Tryz.ntmps3, Tryz.results3, ↓V_convert, ↓V_bytes, stdl, cond_true, cond_false, Nat.reduceEqDiff, Nat.reduceAdd, Nat.reduceMul, Nat.reduceSub, Nat.reduceLT, Int.reduceEq, Int.reduceLT, Int.reduceLE, Int.reduceNeg, Nat.reduceLeDiff, if_true, if_false, ↓reduceIte, forall_const, implies_true, reduceCtorEq, forall_eq_or_imp, forall_eq, ne_eq]) (by simp (maxSteps := 2000000) (contextual := true) only [↓ctl, evl, val, valP, own, app, ↓ctlM, wrt, tys, Tryz.ntmps3, Tryz.results3, ↓V_convert, ↓V_bytes, stdl, cond_true, cond_false, Nat.reduceEqDiff, Nat.reduceAdd, Nat.reduceMul, Nat.reduceSub, Nat.reduceLT, Int.reduceEq, Int.reduceLT, Int.reduceLE, Int.reduceNeg, Nat.reduceLeDiff, if_true, if_false, ↓reduceIte, forall_const, implies_true, reduceCtorEq, forall_eq_or_imp, forall_eq, ne_eq]) trivial ?_
    simp (maxSteps := 2000000) only [↓ctl, evl, val, valP, own, app, ↓ctlM, wrt, tys, Tryz.ntmps3, Tryz.results3, ↓V_convert, ↓V_bytes, stdl, cond_true, cond_false, Nat.reduceEqDiff, Nat.reduceAdd, Nat.reduceMul, Nat.reduceSub, Nat.reduceLT, Int.reduceEq, Int.reduceLT, Int.reduceLE, Int.reduceNeg, Nat.reduceLeDiff, if_true, if_false, ↓reduceIte, forall_const, implies_true, reduceCtorEq, forall_eq_or_imp, forall_eq, ne_eq]
    refine VM_start mixed 2 (by kernel_rfl) (by kernel_rfl) trivial ?_
    simp (maxSteps := 2000000) only [↓ctl, evl, val, valP, own, app, ↓ctlM, wrt, tys, Tryz.ntmps3, Tryz.results3, ↓V_convert, ↓V_bytes, stdl, cond_true, cond_false, Nat.reduceEqDiff, Nat.reduceAdd, Nat.reduceMul, Nat.reduceSub, Nat.reduceLT, Int.reduceEq, Int.reduceLT, Int.reduceLE, Int.reduceNeg, Nat.reduceLeDiff, if_true, if_false, ↓reduceIte, forall_const, implies_true, reduceCtorEq, forall_eq_or_imp, forall_eq, ne_eq]
    refine VM_callRI mixed (cap := []) (l_toFS f ht.sml) (by simp (maxSteps := 2000000) only [↓ctl, evl, val, valP, own, app, ↓ctlM, wrt, tys, Tryz.ntmps3, Tryz.results3, ↓V_convert, ↓V_bytes, stdl, cond_true, cond_false, Nat.reduceEqDiff, Nat.reduceAdd, Nat.reduceMul, Nat.reduceSub, Nat.reduceLT, Int.reduceEq, Int.reduceLT, Int.reduceLE, Int.reduceNeg, Nat.reduceLeDiff, if_true, if_false, ↓reduceIte, forall_const, implies_true, reduceCtorEq, forall_eq_or_imp, forall_eq, ne_eq, fsAV]) (by simp (maxSteps := 2000000) only [↓ctl, evl, val, valP, own, app, ↓ctlM, wrt, tys, Tryz.ntmps3, Tryz.results3, ↓V_convert, ↓V_bytes, stdl, cond_true, cond_false, Nat.reduceEqDiff, Nat.reduceAdd, Nat.reduceMul, Nat.reduceSub, Nat.reduceLT, Int.reduceEq, Int.reduceLT, Int.reduceLE, Int.reduceNeg, Nat.reduceLeDiff, if_true, if_false, ↓reduceIte, forall_const, implies_true, reduceCtorEq, forall_eq_or_imp, forall_eq, ne_eq]) (by simp (maxSteps := 2000000) only [↓ctl, evl, val, valP, own, app, ↓ctlM, wrt, tys, Tryz.ntmps3, Tryz.results3, ↓V_convert, ↓V_bytes, stdl, cond_true, cond_false, Nat.reduceEqDiff, Nat.reduceAdd, Nat.reduceMul, Nat.reduceSub, Nat.reduceLT, Int.reduceEq, Int.reduceLT, Int.reduceLE, Int.reduceNeg, Nat.reduceLeDiff, if_true, if_false, ↓reduceIte, forall_const, implies_true, reduceCtorEq, forall_eq_or_imp, forall_eq, ne_eq]) trivial ?_
    simp (maxSteps := 2000000) only [↓ctl, evl, val, valP, own, app, ↓ctlM, wrt, tys, Tryz.ntmps3, Tryz.results3, ↓V_convert, ↓V_bytes, stdl, cond_true, cond_false, Nat.reduceEqDiff, Nat.reduceAdd, Nat.reduceMul, Nat.reduceSub, Nat.reduceLT, Int.reduceEq, Int.reduceLT, Int.reduceLE, Int.reduceNeg, Nat.reduceLeDiff, if_true, if_false, ↓reduceIte, forall_const, implies_true, reduceCtorEq, forall_eq_or_imp, forall_eq, ne_eq]
    refine VM_callI mixed (cap := []) (fun _ => l_eqFS f f ht.fits ht.fits) (by simp (maxSteps := 2000000) (contextual := true) only [↓ctl, evl, val, valP, own, app, ↓ctlM, wrt, tys, Tryz.ntmps3, Tryz.results3, ↓V_convert, ↓V_bytes, stdl, cond_true, cond_false, Nat.reduceEqDiff, Nat.reduceAdd, Nat.reduceMul, Nat.reduceSub, Nat.reduceLT, Int.reduceEq, Int.reduceLT, Int.reduceLE, Int.reduceNeg, Nat.reduceLeDiff, if_true, if_false, ↓reduceIte, forall_const, implies_true, reduceCtorEq, forall_eq_or_imp, forall_eq, ne_eq, fsAV, Nat.le_refl, tq, tn, td]) (by simp (maxSteps := 2000000) only [↓ctl, evl, val, valP, own, app, ↓ctlM, wrt, tys, Tryz.ntmps3, Tryz.results3, ↓V_convert, ↓V_bytes, stdl, cond_true, cond_false, Nat.reduceEqDiff, Nat.reduceAdd, Nat.reduceMul, Nat.reduceSub, Nat.reduceLT, Int.reduceEq, Int.reduceLT, Int.reduceLE, Int.reduceNeg, Nat.reduceLeDiff, if_true, if_false, ↓reduceIte, forall_const, implies_true, reduceCtorEq, forall_eq_or_imp, forall_eq, ne_eq, fsAV, Nat.le_refl, tq, tn, td]) (by simp (maxSteps := 2000000) only [↓ctl, evl, val, valP, own, app, ↓ctlM, wrt, tys, Tryz.ntmps3, Tryz.results3, ↓V_convert, ↓V_bytes, stdl, cond_true, cond_false, Nat.reduceEqDiff, Nat.reduceAdd, Nat.reduceMul, Nat.reduceSub, Nat.reduceLT, Int.reduceEq, Int.reduceLT, Int.reduceLE, Int.reduceNeg, Nat.reduceLeDiff, if_true, if_false, ↓reduceIte, forall_const, implies_true, reduceCtorEq, forall_eq_or_imp, forall_eq, ne_eq]) trivial ?_
    simp (maxSteps := 2000000) only [↓ctl, evl, val, valP, own, app, ↓ctlM, wrt, tys, Tryz.ntmps3, Tryz.results3, ↓V_convert, ↓V_bytes, stdl, cond_true, cond_false, Nat.reduceEqDiff, Nat.reduceAdd, Nat.reduceMul, Nat.reduceSub, Nat.reduceLT, Int.reduceEq, Int.reduceLT, Int.reduceLE, Int.reduceNeg, Nat.reduceLeDiff, if_true, if_false, ↓reduceIte, forall_const, implies_true, reduceCtorEq, forall_eq_or_imp, forall_eq, ne_eq]
    refine V_callT mixed (cap := []) [15, 16, 17]  ( l_markFS1 f ht.cnt hi20) (by simp (maxSteps := 2000000) only [↓ctl, evl, val, valP, own, app, ↓ctlM, wrt, tys, Tryz.ntmps3, Tryz.results3, ↓V_convert, ↓V_bytes, stdl, cond_true, cond_false, Nat.reduceEqDiff, Nat.reduceAdd, Nat.reduceMul, Nat.reduceSub, Nat.reduceLT, Int.reduceEq, Int.reduceLT, Int.reduceLE, Int.reduceNeg, Nat.reduceLeDiff, if_true, if_false, ↓reduceIte, forall_const, implies_true, reduceCtorEq, forall_eq_or_imp, forall_eq, ne_eq]) (by decide) (by simp (maxSteps := 2000000) only [↓ctl, evl, val, valP, own, app, ↓ctlM, wrt, tys, Tryz.ntmps3, Tryz.results3, ↓V_convert, ↓V_bytes, stdl, cond_true, cond_false, Nat.reduceEqDiff, Nat.reduceAdd, Nat.reduceMul, Nat.reduceSub, Nat.reduceLT, Int.reduceEq, Int.reduceLT, Int.reduceLE, Int.reduceNeg, Nat.reduceLeDiff, if_true, if_false, ↓reduceIte, forall_const, implies_true, reduceCtorEq, forall_eq_or_imp, forall_eq, ne_eq]) (by simp (maxSteps := 2000000) only [↓ctl, evl, val, valP, own, app, ↓ctlM, wrt, tys, Tryz.ntmps3, Tryz.results3, ↓V_convert, ↓V_bytes, stdl, cond_true, cond_false, Nat.reduceEqDiff, Nat.reduceAdd, Nat.reduceMul, Nat.reduceSub, Nat.reduceLT, Int.reduceEq, Int.reduceLT, Int.reduceLE, Int.reduceNeg, Nat.reduceLeDiff, if_true, if_false, ↓reduceIte, forall_const, implies_true, reduceCtorEq, forall_eq_or_imp, forall_eq, ne_eq]) trivial ?_
    simp (maxSteps := 2000000) only [↓ctl, evl, val, valP, own, app, ↓ctlM, wrt, tys, Tryz.ntmps3, Tryz.results3, ↓V_convert, ↓V_bytes, stdl, cond_true, cond_false, Nat.reduceEqDiff, Nat.reduceAdd, Nat.reduceMul, Nat.reduceSub, Nat.reduceLT, Int.reduceEq, Int.reduceLT, Int.reduceLE, Int.reduceNeg, Nat.reduceLeDiff, if_true, if_false, ↓reduceIte, forall_const, implies_true, reduceCtorEq, forall_eq_or_imp, forall_eq, ne_eq, n0]
    refine V_callF mixed (cap := []) (fun _ => l_eqDNil) (by simp (maxSteps := 2000000) (contextual := true) only [↓ctl, evl, val, valP, own, app, ↓ctlM, wrt, tys, Tryz.ntmps3, Tryz.results3, ↓V_convert, ↓V_bytes, stdl, cond_true, cond_false, Nat.reduceEqDiff, Nat.reduceAdd, Nat.reduceMul, Nat.reduceSub, Nat.reduceLT, Int.reduceEq, Int.reduceLT, Int.reduceLE, Int.reduceNeg, Nat.reduceLeDiff, if_true, if_false, ↓reduceIte, forall_const, implies_true, reduceCtorEq, forall_eq_or_imp, forall_eq, ne_eq]) (by simp (maxSteps := 2000000) (contextual := true) only [↓ctl, evl, val, valP, own, app, ↓ctlM, wrt, tys, Tryz.ntmps3, Tryz.results3, ↓V_convert, ↓V_bytes, stdl, cond_true, cond_false, Nat.reduceEqDiff, Nat.reduceAdd, Nat.reduceMul, Nat.reduceSub, Nat.reduceLT, Int.reduceEq, Int.reduceLT, Int.reduceLE, Int.reduceNeg, Nat.reduceLeDiff, if_true, if_false, ↓reduceIte, forall_const, implies_true, reduceCtorEq, forall_eq_or_imp, forall_eq, ne_eq]) (by simp (maxSteps := 2000000) (contextual := true) only [↓ctl, evl, val, valP, own, app, ↓ctlM, wrt, tys, Tryz.ntmps3, Tryz.results3, ↓V_convert, ↓V_bytes, stdl, cond_true, cond_false, Nat.reduceEqDiff, Nat.reduceAdd, Nat.reduceMul, Nat.reduceSub, Nat.reduceLT, Int.reduceEq, Int.reduceLT, Int.reduceLE, Int.reduceNeg, Nat.reduceLeDiff, if_true, if_false, ↓reduceIte, forall_const, implies_true, reduceCtorEq, forall_eq_or_imp, forall_eq, ne_eq]) trivial ?_
    simp (maxSteps := 2000000) only [↓ctl, evl, val, valP, own, app, ↓ctlM, wrt, tys, Tryz.ntmps3, Tryz.results3, ↓V_convert, ↓V_bytes, stdl, cond_true, cond_false, Nat.reduceEqDiff, Nat.reduceAdd, Nat.reduceMul, Nat.reduceSub, Nat.reduceLT, Int.reduceEq, Int.reduceLT, Int.reduceLE, Int.reduceNeg, Nat.reduceLeDiff, if_true, if_false, ↓reduceIte, forall_const, implies_true, reduceCtorEq, forall_eq_or_imp, forall_eq, ne_eq]
    refine V_callF mixed (cap := []) (fun _ => l_markDNil 1) (by simp (maxSteps := 2000000) (contextual := true) only [↓ctl, evl, val, valP, own, app, ↓ctlM, wrt, tys, Tryz.ntmps3, Tryz.results3, ↓V_convert, ↓V_bytes, stdl, cond_true, cond_false, Nat.reduceEqDiff, Nat.reduceAdd, Nat.reduceMul, Nat.reduceSub, Nat.reduceLT, Int.reduceEq, Int.reduceLT, Int.reduceLE, Int.reduceNeg, Nat.reduceLeDiff, if_true, if_false, ↓reduceIte, forall_const, implies_true, reduceCtorEq, forall_eq_or_imp, forall_eq, ne_eq]) (by simp (maxSteps := 2000000) (contextual := true) only [↓ctl, evl, val, valP, own, app, ↓ctlM, wrt, tys, Tryz.ntmps3, Tryz.results3, ↓V_convert, ↓V_bytes, stdl, cond_true, cond_false, Nat.reduceEqDiff, Nat.reduceAdd, Nat.reduceMul, Nat.reduceSub, Nat.reduceLT, Int.reduceEq, Int.reduceLT, Int.reduceLE, Int.reduceNeg, Nat.reduceLeDiff, if_true, if_false, ↓reduceIte, forall_const, implies_true, reduceCtorEq, forall_eq_or_imp, forall_eq, ne_eq]) (by simp (maxSteps := 2000000) (contextual := true) only [↓ctl, evl, val, valP, own, app, ↓ctlM, wrt, tys, Tryz.ntmps3, Tryz.results3, ↓V_convert, ↓V_bytes, stdl, cond_true, cond_false, Nat.reduceEqDiff, Nat.reduceAdd, Nat.reduceMul, Nat.reduceSub, Nat.reduceLT, Int.reduceEq, Int.reduceLT, Int.reduceLE, Int.reduceNeg, Nat.reduceLeDiff, if_true, if_false, ↓reduceIte, forall_const, implies_true, reduceCtorEq, forall_eq_or_imp, forall_eq, ne_eq]) trivial ?_
    simp (maxSteps := 2000000) only [↓ctl, evl, val, valP, own, app, ↓ctlM, wrt, tys, Tryz.ntmps3, Tryz.results3, ↓V_convert, ↓V_bytes, stdl, cond_true, cond_false, Nat.reduceEqDiff, Nat.reduceAdd, Nat.reduceMul, Nat.reduceSub, Nat.reduceLT, Int.reduceEq, Int.reduceLT, Int.reduceLE, Int.reduceNeg, Nat.reduceLeDiff, if_true, if_false, ↓reduceIte, forall_const, implies_true, reduceCtorEq, forall_eq_or_imp, forall_eq, ne_eq]
    refine V_callF mixed (cap := []) (fun _ => l_heldD1Nil) (by simp (maxSteps := 2000000) (contextual := true) only [↓ctl, evl, val, valP, own, app, ↓ctlM, wrt, tys, Tryz.ntmps3, Tryz.results3, ↓V_convert, ↓V_bytes, stdl, cond_true, cond_false, Nat.reduceEqDiff, Nat.reduceAdd, Nat.reduceMul, Nat.reduceSub, Nat.reduceLT, Int.reduceEq, Int.reduceLT, Int.reduceLE, Int.reduceNeg, Nat.reduceLeDiff, if_true, if_false, ↓reduceIte, forall_const, implies_true, reduceCtorEq, forall_eq_or_imp, forall_eq, ne_eq]) (by simp (maxSteps := 2000000) (contextual := true) only [↓ctl, evl, val, valP, own, app, ↓ctlM, wrt, tys, Tryz.ntmps3, Tryz.results3, ↓V_convert, ↓V_bytes, stdl, cond_true, cond_false, Nat.reduceEqDiff, Nat.reduceAdd, Nat.reduceMul, Nat.reduceSub, Nat.reduceLT, Int.reduceEq, Int.reduceLT, Int.reduceLE, Int.reduceNeg, Nat.reduceLeDiff, if_true, if_false, ↓reduceIte, forall_const, implies_true, reduceCtorEq, forall_eq_or_imp, forall_eq, ne_eq]) (by simp (maxSteps := 2000000) (contextual := true) only [↓ctl, evl, val, valP, own, app, ↓ctlM, wrt, tys, Tryz.ntmps3, Tryz.results3, ↓V_convert, ↓V_bytes, stdl, cond_true, cond_false, Nat.reduceEqDiff, Nat.reduceAdd, Nat.reduceMul, Nat.reduceSub, Nat.reduceLT, Int.reduceEq, Int.reduceLT, Int.reduceLE, Int.reduceNeg, Nat.reduceLeDiff, if_true, if_false, ↓reduceIte, forall_const, implies_true, reduceCtorEq, forall_eq_or_imp, forall_eq, ne_eq]) trivial ?_
    simp (maxSteps := 2000000) only [↓ctl, evl, val, valP, own, app, ↓ctlM, wrt, tys, Tryz.ntmps3, Tryz.results3, ↓V_convert, ↓V_bytes, stdl, cond_true, cond_false, Nat.reduceEqDiff, Nat.reduceAdd, Nat.reduceMul, Nat.reduceSub, Nat.reduceLT, Int.reduceEq, Int.reduceLT, Int.reduceLE, Int.reduceNeg, Nat.reduceLeDiff, if_true, if_false, ↓reduceIte, forall_const, implies_true, reduceCtorEq, forall_eq_or_imp, forall_eq, ne_eq]
    refine V_callR mixed (cap := []) (l_toFS f ht.sml) (by simp (maxSteps := 2000000) only [↓ctl, evl, val, valP, own, app, ↓ctlM, wrt, tys, Tryz.ntmps3, Tryz.results3, ↓V_convert, ↓V_bytes, stdl, cond_true, cond_false, Nat.reduceEqDiff, Nat.reduceAdd, Nat.reduceMul, Nat.reduceSub, Nat.reduceLT, Int.reduceEq, Int.reduceLT, Int.reduceLE, Int.reduceNeg, Nat.reduceLeDiff, if_true, if_false, ↓reduceIte, forall_const, implies_true, reduceCtorEq, forall_eq_or_imp, forall_eq, ne_eq, fsAV]) (by simp (maxSteps := 2000000) only [↓ctl, evl, val, valP, own, app, ↓ctlM, wrt, tys, Tryz.ntmps3, Tryz.results3, ↓V_convert, ↓V_bytes, stdl, cond_true, cond_false, Nat.reduceEqDiff, Nat.reduceAdd, Nat.reduceMul, Nat.reduceSub, Nat.reduceLT, Int.reduceEq, Int.reduceLT, Int.reduceLE, Int.reduceNeg, Nat.reduceLeDiff, if_true, if_false, ↓reduceIte, forall_const, implies_true, reduceCtorEq, forall_eq_or_imp, forall_eq, ne_eq]) (by simp (maxSteps := 2000000) only [↓ctl, evl, val, valP, own, app, ↓ctlM, wrt, tys, Tryz.ntmps3, Tryz.results3, ↓V_convert, ↓V_bytes, stdl, cond_true, cond_false, Nat.reduceEqDiff, Nat.reduceAdd, Nat.reduceMul, Nat.reduceSub, Nat.reduceLT, Int.reduceEq, Int.reduceLT, Int.reduceLE, Int.reduceNeg, Nat.reduceLeDiff, if_true, if_false, ↓reduceIte, forall_const, implies_true, reduceCtorEq, forall_eq_or_imp, forall_eq, ne_eq]) trivial ?_
    simp (maxSteps := 2000000) only [↓ctl, evl, val, valP, own, app, ↓ctlM, wrt, tys, Tryz.ntmps3, Tryz.results3, ↓V_convert, ↓V_bytes, stdl, cond_true, cond_false, Nat.reduceEqDiff, Nat.reduceAdd, Nat.reduceMul, Nat.reduceSub, Nat.reduceLT, Int.reduceEq, Int.reduceLT, Int.reduceLE, Int.reduceNeg, Nat.reduceLeDiff, if_true, if_false, ↓reduceIte, forall_const, implies_true, reduceCtorEq, forall_eq_or_imp, forall_eq, ne_eq]
    refine V_callR mixed (cap := []) (hc) (by simp (maxSteps := 2000000) only [↓ctl, evl, val, valP, own, app, ↓ctlM, wrt, tys, Tryz.ntmps3, Tryz.results3, ↓V_convert, ↓V_bytes, stdl, cond_true, cond_false, Nat.reduceEqDiff, Nat.reduceAdd, Nat.reduceMul, Nat.reduceSub, Nat.reduceLT, Int.reduceEq, Int.reduceLT, Int.reduceLE, Int.reduceNeg, Nat.reduceLeDiff, if_true, if_false, ↓reduceIte, forall_const, implies_true, reduceCtorEq, forall_eq_or_imp, forall_eq, ne_eq, fsAV, Nat.le_refl, tq, tn, td]) (by simp (maxSteps := 2000000) only [↓ctl, evl, val, valP, own, app, ↓ctlM, wrt, tys, Tryz.ntmps3, Tryz.results3, ↓V_convert, ↓V_bytes, stdl, cond_true, cond_false, Nat.reduceEqDiff, Nat.reduceAdd, Nat.reduceMul, Nat.reduceSub, Nat.reduceLT, Int.reduceEq, Int.reduceLT, Int.reduceLE, Int.reduceNeg, Nat.reduceLeDiff, if_true, if_false, ↓reduceIte, forall_const, implies_true, reduceCtorEq, forall_eq_or_imp, forall_eq, ne_eq]) (by simp (maxSteps := 2000000) only [↓ctl, evl, val, valP, own, app, ↓ctlM, wrt, tys, Tryz.ntmps3, Tryz.results3, ↓V_convert, ↓V_bytes, stdl, cond_true, cond_false, Nat.reduceEqDiff, Nat.reduceAdd, Nat.reduceMul, Nat.reduceSub, Nat.reduceLT, Int.reduceEq, Int.reduceLT, Int.reduceLE, Int.reduceNeg, Nat.reduceLeDiff, if_true, if_false, ↓reduceIte, forall_const, implies_true, reduceCtorEq, forall_eq_or_imp, forall_eq, ne_eq]) trivial ?_
    simp (maxSteps := 2000000) only [↓ctl, evl, val, valP, own, app, ↓ctlM, wrt, tys, Tryz.ntmps3, Tryz.results3, ↓V_convert, ↓V_bytes, stdl, cond_true, cond_false, Nat.reduceEqDiff, Nat.reduceAdd, Nat.reduceMul, Nat.reduceSub, Nat.reduceLT, Int.reduceEq, Int.reduceLT, Int.reduceLE, Int.reduceNeg, Nat.reduceLeDiff, if_true, if_false, ↓reduceIte, forall_const, implies_true, reduceCtorEq, forall_eq_or_imp, forall_eq, ne_eq]
    refine V_callF mixed (cap := []) (fun _ => l_eqDNil) (by simp (maxSteps := 2000000) (contextual := true) only [↓ctl, evl, val, valP, own, app, ↓ctlM, wrt, tys, Tryz.ntmps3, Tryz.results3, ↓V_convert, ↓V_bytes, stdl, cond_true, cond_false, Nat.reduceEqDiff, Nat.reduceAdd, Nat.reduceMul, Nat.reduceSub, Nat.reduceLT, Int.reduceEq, Int.reduceLT, Int.reduceLE, Int.reduceNeg, Nat.reduceLeDiff, if_true, if_false, ↓reduceIte, forall_const, implies_true, reduceCtorEq, forall_eq_or_imp, forall_eq, ne_eq]) (by simp (maxSteps := 2000000) (contextual := true) only [↓ctl, evl, val, valP, own, app, ↓ctlM, wrt, tys, Tryz.ntmps3, Tryz.results3, ↓V_convert, ↓V_bytes, stdl, cond_true, cond_false, Nat.reduceEqDiff, Nat.reduceAdd, Nat.reduceMul, Nat.reduceSub, Nat.reduceLT, Int.reduceEq, Int.reduceLT, Int.reduceLE, Int.reduceNeg, Nat.reduceLeDiff, if_true, if_false, ↓reduceIte, forall_const, implies_true, reduceCtorEq, forall_eq_or_imp, forall_eq, ne_eq]) (by simp (maxSteps := 2000000) (contextual := true) only [↓ctl, evl, val, valP, own, app, ↓ctlM, wrt, tys, Tryz.ntmps3, Tryz.results3, ↓V_convert, ↓V_bytes, stdl, cond_true, cond_false, Nat.reduceEqDiff, Nat.reduceAdd, Nat.reduceMul, Nat.reduceSub, Nat.reduceLT, Int.reduceEq, Int.reduceLT, Int.reduceLE, Int.reduceNeg, Nat.reduceLeDiff, if_true, if_false, ↓reduceIte, forall_const, implies_true, reduceCtorEq, forall_eq_or_imp, forall_eq, ne_eq]) trivial ?_
    simp (maxSteps := 2000000) only [↓ctl, evl, val, valP, own, app, ↓ctlM, wrt, tys, Tryz.ntmps3, Tryz.results3, ↓V_convert, ↓V_bytes, stdl, cond_true, cond_false, Nat.reduceEqDiff, Nat.reduceAdd, Nat.reduceMul, Nat.reduceSub, Nat.reduceLT, Int.reduceEq, Int.reduceLT, Int.reduceLE, Int.reduceNeg, Nat.reduceLeDiff, if_true, if_false, ↓reduceIte, forall_const, implies_true, reduceCtorEq, forall_eq_or_imp, forall_eq, ne_eq]
    refine V_callF mixed (cap := []) (fun _ => l_heldD1Nil) (by simp (maxSteps := 2000000) (contextual := true) only [↓ctl, evl, val, valP, own, app, ↓ctlM, wrt, tys, Tryz.ntmps3, Tryz.results3, ↓V_convert, ↓V_bytes, stdl, cond_true, cond_false, Nat.reduceEqDiff, Nat.reduceAdd, Nat.reduceMul, Nat.reduceSub, Nat.reduceLT, Int.reduceEq, Int.reduceLT, Int.reduceLE, Int.reduceNeg, Nat.reduceLeDiff, if_true, if_false, ↓reduceIte, forall_const, implies_true, reduceCtorEq, forall_eq_or_imp, forall_eq, ne_eq]) (by simp (maxSteps := 2000000) (contextual := true) only [↓ctl, evl, val, valP, own, app, ↓ctlM, wrt, tys, Tryz.ntmps3, Tryz.results3, ↓V_convert, ↓V_bytes, stdl, cond_true, cond_false, Nat.reduceEqDiff, Nat.reduceAdd, Nat.reduceMul, Nat.reduceSub, Nat.reduceLT, Int.reduceEq, Int.reduceLT, Int.reduceLE, Int.reduceNeg, Nat.reduceLeDiff, if_true, if_false, ↓reduceIte, forall_const, implies_true, reduceCtorEq, forall_eq_or_imp, forall_eq, ne_eq]) (by simp (maxSteps := 2000000) (contextual := true) only [↓ctl, evl, val, valP, own, app, ↓ctlM, wrt, tys, Tryz.ntmps3, Tryz.results3, ↓V_convert, ↓V_bytes, stdl, cond_true, cond_false, Nat.reduceEqDiff, Nat.reduceAdd, Nat.reduceMul, Nat.reduceSub, Nat.reduceLT, Int.reduceEq, Int.reduceLT, Int.reduceLE, Int.reduceNeg, Nat.reduceLeDiff, if_true, if_false, ↓reduceIte, forall_const, implies_true, reduceCtorEq, forall_eq_or_imp, forall_eq, ne_eq]) trivial ?_
    simp (maxSteps := 2000000) only [↓ctl, evl, val, valP, own, app, ↓ctlM, wrt, tys, Tryz.ntmps3, Tryz.results3, ↓V_convert, ↓V_bytes, stdl, cond_true, cond_false, Nat.reduceEqDiff, Nat.reduceAdd, Nat.reduceMul, Nat.reduceSub, Nat.reduceLT, Int.reduceEq, Int.reduceLT, Int.reduceLE, Int.reduceNeg, Nat.reduceLeDiff, if_true, if_false, ↓reduceIte, forall_const, implies_true, reduceCtorEq, forall_eq_or_imp, forall_eq, ne_eq]
  | some l =>
    have hl : l.length ≤ 549755813888 := by
      unfold packO at hP
      split at hP
      · simp only [Option.some.injEq] at hP; subst hP; exact hpk
      · cases hP
    have hd := d_FormatFS f ht.ok
    have hc := c_FormatFS f ht.ok
    rw [hP, resD_some, heapS_some] at hd hc
    have tl := take_map l
    have ml : (marks (mkS 1) l.length).length = l.length := marks_length (mkS 1) l.length
    have tm : List.take l.length ((marks (mkS 1) l.length).map strRow) = (marks (mkS 1) l.length).map strRow := List.take_of_length_le (by simp [ml])
    have n1 : ¬ (((1 + l.length : Nat) : Int) < 0) := by omega
    refine V_callR mixed (cap := []) (hd) (by simp (maxSteps := 2000000) only [↓ctl, evl, val, valP, own, app, ↓ctlM, wrt, tys, Tryz.ntmps3, Tryz.results3, ↓V_convert, ↓V_bytes, stdl, cond_true, cond_false, Nat.reduceEqDiff, Nat.reduceAdd, Nat.reduceMul, Nat.reduceSub, Nat.reduceLT, Int.reduceEq, Int.reduceLT, Int.reduceLE, Int.reduceNeg, Nat.reduceLeDiff, if_true, if_false, ↓reduceIte, forall_const, implies_true, reduceCtorEq, forall_eq_or_imp, forall_eq, ne_eq, fsAV, Nat.le_refl, tq, tn, td]) (by simp (maxSteps := 2000000) only [↓ctl, evl, val, valP, own, app, ↓ctlM, wrt, tys, Tryz.ntmps3, Tryz.results3, ↓V_convert, ↓V_bytes, stdl, cond_true, cond_false, Nat.reduceEqDiff, Nat.reduceAdd, Nat.reduceMul, Nat.reduceSub, Nat.reduceLT, Int.reduceEq, Int.reduceLT, Int.reduceLE, Int.reduceNeg, Nat.reduceLeDiff, if_true, if_false, ↓reduceIte, forall_const, implies_true, reduceCtorEq, forall_eq_or_imp, forall_eq, ne_eq]) (by simp (maxSteps := 2000000) only [↓ctl, evl, val, valP, own, app, ↓ctlM, wrt, tys, Tryz.ntmps3, Tryz.results3, ↓V_convert, ↓V_bytes, stdl, cond_true, cond_false, Nat.reduceEqDiff, Nat.reduceAdd, Nat.reduceMul, Nat.reduceSub, Nat.reduceLT, Int.reduceEq, Int.reduceLT, Int.reduceLE, Int.reduceNeg, Nat.reduceLeDiff, if_true, if_false, ↓reduceIte, forall_const, implies_true, reduceCtorEq, forall_eq_or_imp, forall_eq, ne_eq]) trivial ?_
    simp (maxSteps := 2000000) only [↓ctl, evl, val, valP, own, app, ↓ctlM, wrt, tys, Tryz.ntmps3, Tryz.results3, ↓V_convert, ↓V_bytes, stdl, cond_true, cond_false, Nat.reduceEqDiff, Nat.reduceAdd, Nat.reduceMul, Nat.reduceSub, Nat.reduceLT, Int.reduceEq, Int.reduceLT, Int.reduceLE, Int.reduceNeg, Nat.reduceLeDiff, if_true, if_false, ↓reduceIte, forall_const, implies_true, reduceCtorEq, forall_eq_or_imp, forall_eq, ne_eq]
    refine V_callR mixed (cap := []) (l_toFS f ht.sml) (by simp (maxSteps := 2000000) only [↓ctl, evl, val, valP, own, app, ↓ctlM, wrt, tys, Tryz.ntmps3, Tryz.results3, ↓V_convert, ↓V_bytes, stdl, cond_true, cond_false, Nat.reduceEqDiff, Nat.reduceAdd, Nat.reduceMul, Nat.reduceSub, Nat.reduceLT, Int.reduceEq, Int.reduceLT, Int.reduceLE, Int.reduceNeg, Nat.reduceLeDiff, if_true, if_false, ↓reduceIte, forall_const, implies_true, reduceCtorEq, forall_eq_or_imp, forall_eq, ne_eq, fsAV]) (by simp (maxSteps := 2000000) only [↓ctl, evl, val, valP, own, app, ↓ctlM, wrt, tys, Tryz.ntmps3, Tryz.results3, ↓V_convert, ↓V_bytes, stdl, cond_true, cond_false, Nat.reduceEqDiff, Nat.reduceAdd, Nat.reduceMul, Nat.reduceSub, Nat.reduceLT, Int.reduceEq, Int.reduceLT, Int.reduceLE, Int.reduceNeg, Nat.reduceLeDiff, if_true, if_false, ↓reduceIte, forall_const, implies_true, reduceCtorEq, forall_eq_or_imp, forall_eq, ne_eq]) (by simp (maxSteps := 2000000) only [↓ctl, evl, val, valP, own, app, ↓ctlM, wrt, tys, Tryz.ntmps3, Tryz.results3, ↓V_convert, ↓V_bytes, stdl, cond_true, cond_false, Nat.reduceEqDiff, Nat.reduceAdd, Nat.reduceMul, Nat.reduceSub, Nat.reduceLT, Int.reduceEq, Int.reduceLT, Int.reduceLE, Int.reduceNeg, Nat.reduceLeDiff, if_true, if_false, ↓reduceIte, forall_const, implies_true, reduceCtorEq, forall_eq_or_imp, forall_eq, ne_eq]) trivial ?_
    simp (maxSteps := 2000000) only [↓ctl, evl, val, valP, own, app, ↓ctlM, wrt, tys, Tryz.ntmps3, Tryz.results3, ↓V_convert, ↓V_bytes, stdl, cond_true, cond_false, Nat.reduceEqDiff, Nat.reduceAdd, Nat.reduceMul, Nat.reduceSub, Nat.reduceLT, Int.reduceEq, Int.reduceLT, Int.reduceLE, Int.reduceNeg, Nat.reduceLeDiff, if_true, if_false, ↓reduceIte, forall_const, implies_true, reduceCtorEq, forall_eq_or_imp, forall_eq, ne_eq]
    refine V_callR mixed (cap := []) (hc) (by simp (maxSteps := 2000000) only [↓ctl, evl, val, valP, own, app, ↓ctlM, wrt, tys, Tryz.ntmps3, Tryz.results3, ↓V_convert, ↓V_bytes, stdl, cond_true, cond_false, Nat.reduceEqDiff, Nat.reduceAdd, Nat.reduceMul, Nat.reduceSub, Nat.reduceLT, Int.reduceEq, Int.reduceLT, Int.reduceLE, Int.reduceNeg, Nat.reduceLeDiff, if_true, if_false, ↓reduceIte, forall_const, implies_true, reduceCtorEq, forall_eq_or_imp, forall_eq, ne_eq, fsAV, Nat.le_refl, tq, tn, td]) (by simp (maxSteps := 2000000) only [↓ctl, evl, val, valP, own, app, ↓ctlM, wrt, tys, Tryz.ntmps3, Tryz.results3, ↓V_convert, ↓V_bytes, stdl, cond_true, cond_false, Nat.reduceEqDiff, Nat.reduceAdd, Nat.reduceMul, Nat.reduceSub, Nat.reduceLT, Int.reduceEq, Int.reduceLT, Int.reduceLE, Int.reduceNeg, Nat.reduceLeDiff, if_true, if_false, ↓reduceIte, forall_const, implies_true, reduceCtorEq, forall_eq_or_imp, forall_eq, ne_eq]) (by simp (maxSteps := 2000000) only [↓ctl, evl, val, valP, own, app, ↓ctlM, wrt, tys, Tryz.ntmps3, Tryz.results3, ↓V_convert, ↓V_bytes, stdl, cond_true, cond_false, Nat.reduceEqDiff, Nat.reduceAdd, Nat.reduceMul, Nat.reduceSub, Nat.reduceLT, Int.reduceEq, Int.reduceLT, Int.reduceLE, Int.reduceNeg, Nat.reduceLeDiff, if_true, if_false, ↓reduceIte, forall_const, implies_true, reduceCtorEq, forall_eq_or_imp, forall_eq, ne_eq]) trivial ?_
    simp (maxSteps := 2000000) only [↓ctl, evl, val, valP, own, app, ↓ctlM, wrt, tys, Tryz.ntmps3, Tryz.results3, ↓V_convert, ↓V_bytes, stdl, cond_true, cond_false, Nat.reduceEqDiff, Nat.reduceAdd, Nat.reduceMul, Nat.reduceSub, Nat.reduceLT, Int.reduceEq, Int.reduceLT, Int.reduceLE, Int.reduceNeg, Nat.reduceLeDiff, if_true, if_false, ↓reduceIte, forall_const, implies_true, reduceCtorEq, forall_eq_or_imp, forall_eq, ne_eq]
    refine V_callF mixed (cap := []) (fun _ => l_eqDSame l (by omega)) (by simp (maxSteps := 2000000) (contextual := true) only [↓ctl, evl, val, valP, own, app, ↓ctlM, wrt, tys, Tryz.ntmps3, Tryz.results3, ↓V_convert, ↓V_bytes, stdl, cond_true, cond_false, Nat.reduceEqDiff, Nat.reduceAdd, Nat.reduceMul, Nat.reduceSub, Nat.reduceLT, Int.reduceEq, Int.reduceLT, Int.reduceLE, Int.reduceNeg, Nat.reduceLeDiff, if_true, if_false, ↓reduceIte, forall_const, implies_true, reduceCtorEq, forall_eq_or_imp, forall_eq, ne_eq, Nat.le_refl, tl]) (by simp (maxSteps := 2000000) (contextual := true) only [↓ctl, evl, val, valP, own, app, ↓ctlM, wrt, tys, Tryz.ntmps3, Tryz.results3, ↓V_convert, ↓V_bytes, stdl, cond_true, cond_false, Nat.reduceEqDiff, Nat.reduceAdd, Nat.reduceMul, Nat.reduceSub, Nat.reduceLT, Int.reduceEq, Int.reduceLT, Int.reduceLE, Int.reduceNeg, Nat.reduceLeDiff, if_true, if_false, ↓reduceIte, forall_const, implies_true, reduceCtorEq, forall_eq_or_imp, forall_eq, ne_eq]) (by simp (maxSteps := 2000000) (contextual := true) only [↓ctl, evl, val, valP, own, app, ↓ctlM, wrt, tys, Tryz.ntmps3, Tryz.results3, ↓V_convert, ↓V_bytes, stdl, cond_true, cond_false, Nat.reduceEqDiff, Nat.reduceAdd, Nat.reduceMul, Nat.reduceSub, Nat.reduceLT, Int.reduceEq, Int.reduceLT, Int.reduceLE, Int.reduceNeg, Nat.reduceLeDiff, if_true, if_false, ↓reduceIte, forall_const, implies_true, reduceCtorEq, forall_eq_or_imp, forall_eq, ne_eq]) trivial ?_
    simp (maxSteps := 2000000) only [↓ctl, evl, val, valP, own, app, ↓ctlM, wrt, tys, Tryz.ntmps3, Tryz.results3, ↓V_convert, ↓V_bytes, stdl, cond_true, cond_false, Nat.reduceEqDiff, Nat.reduceAdd, Nat.reduceMul, Nat.reduceSub, Nat.reduceLT, Int.reduceEq, Int.reduceLT, Int.reduceLE, Int.reduceNeg, Nat.reduceLeDiff, if_true, if_false, ↓reduceIte, forall_const, implies_true, reduceCtorEq, forall_eq_or_imp, forall_eq, ne_eq]
    refine VM_start mixed 2 (by kernel_rfl) (by kernel_rfl) trivial ?_
    simp (maxSteps := 2000000) only [↓ctl, evl, val, valP, own, app, ↓ctlM, wrt, tys, Tryz.ntmps3, Tryz.results3, ↓V_convert, ↓V_bytes, stdl, cond_true, cond_false, Nat.reduceEqDiff, Nat.reduceAdd, Nat.reduceMul, Nat.reduceSub, Nat.reduceLT, Int.reduceEq, Int.reduceLT, Int.reduceLE, Int.reduceNeg, Nat.reduceLeDiff, if_true, if_false, ↓reduceIte, forall_const, implies_true, reduceCtorEq, forall_eq_or_imp, forall_eq, ne_eq]
    refine VM_callRI mixed (cap := []) (l_toFS f ht.sml) (by simp (maxSteps := 2000000) only [↓ctl, evl, val, valP, own, app, ↓ctlM, wrt, tys, Tryz.ntmps3, Tryz.results3, ↓V_convert, ↓V_bytes, stdl, cond_true, cond_false, Nat.reduceEqDiff, Nat.reduceAdd, Nat.reduceMul, Nat.reduceSub, Nat.reduceLT, Int.reduceEq, Int.reduceLT, Int.reduceLE, Int.reduceNeg, Nat.reduceLeDiff, if_true, if_false, ↓reduceIte, forall_const, implies_true, reduceCtorEq, forall_eq_or_imp, forall_eq, ne_eq, fsAV]) (by simp (maxSteps := 2000000) only [↓ctl, evl, val, valP, own, app, ↓ctlM, wrt, tys, Tryz.ntmps3, Tryz.results3, ↓V_convert, ↓V_bytes, stdl, cond_true, cond_false, Nat.reduceEqDiff, Nat.reduceAdd, Nat.reduceMul, Nat.reduceSub, Nat.reduceLT, Int.reduceEq, Int.reduceLT, Int.reduceLE, Int.reduceNeg, Nat.reduceLeDiff, if_true, if_false, ↓reduceIte, forall_const, implies_true, reduceCtorEq, forall_eq_or_imp, forall_eq, ne_eq]) (by simp (maxSteps := 2000000) only [↓ctl, evl, val, valP, own, app, ↓ctlM, wrt, tys, Tryz.ntmps3, Tryz.results3, ↓V_convert, ↓V_bytes, stdl, cond_true, cond_false, Nat.reduceEqDiff, Nat.reduceAdd, Nat.reduceMul, Nat.reduceSub, Nat.reduceLT, Int.reduceEq, Int.reduceLT, Int.reduceLE, Int.reduceNeg, Nat.reduceLeDiff, if_true, if_false, ↓reduceIte, forall_const, implies_true, reduceCtorEq, forall_eq_or_imp, forall_eq, ne_eq]) trivial ?_
    simp (maxSteps := 2000000) only [↓ctl, evl, val, valP, own, app, ↓ctlM, wrt, tys, Tryz.ntmps3, Tryz.results3, ↓V_convert, ↓V_bytes, stdl, cond_true, cond_false, Nat.reduceEqDiff, Nat.reduceAdd, Nat.reduceMul, Nat.reduceSub, Nat.reduceLT, Int.reduceEq, Int.reduceLT, Int.reduceLE, Int.reduceNeg, Nat.reduceLeDiff, if_true, if_false, ↓reduceIte, forall_const, implies_true, reduceCtorEq, forall_eq_or_imp, forall_eq, ne_eq]
    refine VM_callI mixed (cap := []) (fun _ => l_eqFS f f ht.fits ht.fits) (by simp (maxSteps := 2000000) (contextual := true) only [↓ctl, evl, val, valP, own, app, ↓ctlM, wrt, tys, Tryz.ntmps3, Tryz.results3, ↓V_convert, ↓V_bytes, stdl, cond_true, cond_false, Nat.reduceEqDiff, Nat.reduceAdd, Nat.reduceMul, Nat.reduceSub, Nat.reduceLT, Int.reduceEq, Int.reduceLT, Int.reduceLE, Int.reduceNeg, Nat.reduceLeDiff, if_true, if_false, ↓reduceIte, forall_const, implies_true, reduceCtorEq, forall_eq_or_imp, forall_eq, ne_eq, fsAV, Nat.le_refl, tq, tn, td]) (by simp (maxSteps := 2000000) only [↓ctl, evl, val, valP, own, app, ↓ctlM, wrt, tys, Tryz.ntmps3, Tryz.results3, ↓V_convert, ↓V_bytes, stdl, cond_true, cond_false, Nat.reduceEqDiff, Nat.reduceAdd, Nat.reduceMul, Nat.reduceSub, Nat.reduceLT, Int.reduceEq, Int.reduceLT, Int.reduceLE, Int.reduceNeg, Nat.reduceLeDiff, if_true, if_false, ↓reduceIte, forall_const, implies_true, reduceCtorEq, forall_eq_or_imp, forall_eq, ne_eq, fsAV, Nat.le_refl, tq, tn, td]) (by simp (maxSteps := 2000000) only [↓ctl, evl, val, valP, own, app, ↓ctlM, wrt, tys, Tryz.ntmps3, Tryz.results3, ↓V_convert, ↓V_bytes, stdl, cond_true, cond_false, Nat.reduceEqDiff, Nat.reduceAdd, Nat.reduceMul, Nat.reduceSub, Nat.reduceLT, Int.reduceEq, Int.reduceLT, Int.reduceLE, Int.reduceNeg, Nat.reduceLeDiff, if_true, if_false, ↓reduceIte, forall_const, implies_true, reduceCtorEq, forall_eq_or_imp, forall_eq, ne_eq]) trivial ?_
    simp (maxSteps := 2000000) only [↓ctl, evl, val, valP, own, app, ↓ctlM, wrt, tys, Tryz.ntmps3, Tryz.results3, ↓V_convert, ↓V_bytes, stdl, cond_true, cond_false, Nat.reduceEqDiff, Nat.reduceAdd, Nat.reduceMul, Nat.reduceSub, Nat.reduceLT, Int.reduceEq, Int.reduceLT, Int.reduceLE, Int.reduceNeg, Nat.reduceLeDiff, if_true, if_false, ↓reduceIte, forall_const, implies_true, reduceCtorEq, forall_eq_or_imp, forall_eq, ne_eq]
    refine V_callT mixed (cap := []) [15, 16, 17]  ( l_markFS1 f ht.cnt hi20) (by simp (maxSteps := 2000000) only [↓ctl, evl, val, valP, own, app, ↓ctlM, wrt, tys, Tryz.ntmps3, Tryz.results3, ↓V_convert, ↓V_bytes, stdl, cond_true, cond_false, Nat.reduceEqDiff, Nat.reduceAdd, Nat.reduceMul, Nat.reduceSub, Nat.reduceLT, Int.reduceEq, Int.reduceLT, Int.reduceLE, Int.reduceNeg, Nat.reduceLeDiff, if_true, if_false, ↓reduceIte, forall_const, implies_true, reduceCtorEq, forall_eq_or_imp, forall_eq, ne_eq]) (by decide) (by simp (maxSteps := 2000000) only [↓ctl, evl, val, valP, own, app, ↓ctlM, wrt, tys, Tryz.ntmps3, Tryz.results3, ↓V_convert, ↓V_bytes, stdl, cond_true, cond_false, Nat.reduceEqDiff, Nat.reduceAdd, Nat.reduceMul, Nat.reduceSub, Nat.reduceLT, Int.reduceEq, Int.reduceLT, Int.reduceLE, Int.reduceNeg, Nat.reduceLeDiff, if_true, if_false, ↓reduceIte, forall_const, implies_true, reduceCtorEq, forall_eq_or_imp, forall_eq, ne_eq]) (by simp (maxSteps := 2000000) only [↓ctl, evl, val, valP, own, app, ↓ctlM, wrt, tys, Tryz.ntmps3, Tryz.results3, ↓V_convert, ↓V_bytes, stdl, cond_true, cond_false, Nat.reduceEqDiff, Nat.reduceAdd, Nat.reduceMul, Nat.reduceSub, Nat.reduceLT, Int.reduceEq, Int.reduceLT, Int.reduceLE, Int.reduceNeg, Nat.reduceLeDiff, if_true, if_false, ↓reduceIte, forall_const, implies_true, reduceCtorEq, forall_eq_or_imp, forall_eq, ne_eq]) trivial ?_
    simp (maxSteps := 2000000) only [↓ctl, evl, val, valP, own, app, ↓ctlM, wrt, tys, Tryz.ntmps3, Tryz.results3, ↓V_convert, ↓V_bytes, stdl, cond_true, cond_false, Nat.reduceEqDiff, Nat.reduceAdd, Nat.reduceMul, Nat.reduceSub, Nat.reduceLT, Int.reduceEq, Int.reduceLT, Int.reduceLE, Int.reduceNeg, Nat.reduceLeDiff, if_true, if_false, ↓reduceIte, forall_const, implies_true, reduceCtorEq, forall_eq_or_imp, forall_eq, ne_eq, n0]
    refine V_callF mixed (cap := []) (fun _ => l_eqDSame l (by omega)) (by simp (maxSteps := 2000000) (contextual := true) only [↓ctl, evl, val, valP, own, app, ↓ctlM, wrt, tys, Tryz.ntmps3, Tryz.results3, ↓V_convert, ↓V_bytes, stdl, cond_true, cond_false, Nat.reduceEqDiff, Nat.reduceAdd, Nat.reduceMul, Nat.reduceSub, Nat.reduceLT, Int.reduceEq, Int.reduceLT, Int.reduceLE, Int.reduceNeg, Nat.reduceLeDiff, if_true, if_false, ↓reduceIte, forall_const, implies_true, reduceCtorEq, forall_eq_or_imp, forall_eq, ne_eq, Nat.le_refl, tl]) (by simp (maxSteps := 2000000) (contextual := true) only [↓ctl, evl, val, valP, own, app, ↓ctlM, wrt, tys, Tryz.ntmps3, Tryz.results3, ↓V_convert, ↓V_bytes, stdl, cond_true, cond_false, Nat.reduceEqDiff, Nat.reduceAdd, Nat.reduceMul, Nat.reduceSub, Nat.reduceLT, Int.reduceEq, Int.reduceLT, Int.reduceLE, Int.reduceNeg, Nat.reduceLeDiff, if_true, if_false, ↓reduceIte, forall_const, implies_true, reduceCtorEq, forall_eq_or_imp, forall_eq, ne_eq]) (by simp (maxSteps := 2000000) (contextual := true) only [↓ctl, evl, val, valP, own, app, ↓ctlM, wrt, tys, Tryz.ntmps3, Tryz.results3, ↓V_convert, ↓V_bytes, stdl, cond_true, cond_false, Nat.reduceEqDiff, Nat.reduceAdd, Nat.reduceMul, Nat.reduceSub, Nat.reduceLT, Int.reduceEq, Int.reduceLT, Int.reduceLE, Int.reduceNeg, Nat.reduceLeDiff, if_true, if_false, ↓reduceIte, forall_const, implies_true, reduceCtorEq, forall_eq_or_imp, forall_eq, ne_eq]) trivial ?_
    simp (maxSteps := 2000000) only [↓ctl, evl, val, valP, own, app, ↓ctlM, wrt, tys, Tryz.ntmps3, Tryz.results3, ↓V_convert, ↓V_bytes, stdl, cond_true, cond_false, Nat.reduceEqDiff, Nat.reduceAdd, Nat.reduceMul, Nat.reduceSub, Nat.reduceLT, Int.reduceEq, Int.reduceLT, Int.reduceLE, Int.reduceNeg, Nat.reduceLeDiff, if_true, if_false, ↓reduceIte, forall_const, implies_true, reduceCtorEq, forall_eq_or_imp, forall_eq, ne_eq]
    refine V_callT mixed (cap := []) [22]  ( l_markD1 l (by omega)) (by simp (maxSteps := 2000000) only [↓ctl, evl, val, valP, own, app, ↓ctlM, wrt, tys, Tryz.ntmps3, Tryz.results3, ↓V_convert, ↓V_bytes, stdl, cond_true, cond_false, Nat.reduceEqDiff, Nat.reduceAdd, Nat.reduceMul, Nat.reduceSub, Nat.reduceLT, Int.reduceEq, Int.reduceLT, Int.reduceLE, Int.reduceNeg, Nat.reduceLeDiff, if_true, if_false, ↓reduceIte, forall_const, implies_true, reduceCtorEq, forall_eq_or_imp, forall_eq, ne_eq]) (by decide) (by simp (maxSteps := 2000000) only [↓ctl, evl, val, valP, own, app, ↓ctlM, wrt, tys, Tryz.ntmps3, Tryz.results3, ↓V_convert, ↓V_bytes, stdl, cond_true, cond_false, Nat.reduceEqDiff, Nat.reduceAdd, Nat.reduceMul, Nat.reduceSub, Nat.reduceLT, Int.reduceEq, Int.reduceLT, Int.reduceLE, Int.reduceNeg, Nat.reduceLeDiff, if_true, if_false, ↓reduceIte, forall_const, implies_true, reduceCtorEq, forall_eq_or_imp, forall_eq, ne_eq]) (by simp (maxSteps := 2000000) only [↓ctl, evl, val, valP, own, app, ↓ctlM, wrt, tys, Tryz.ntmps3, Tryz.results3, ↓V_convert, ↓V_bytes, stdl, cond_true, cond_false, Nat.reduceEqDiff, Nat.reduceAdd, Nat.reduceMul, Nat.reduceSub, Nat.reduceLT, Int.reduceEq, Int.reduceLT, Int.reduceLE, Int.reduceNeg, Nat.reduceLeDiff, if_true, if_false, ↓reduceIte, forall_const, implies_true, reduceCtorEq, forall_eq_or_imp, forall_eq, ne_eq]) trivial ?_
    simp (maxSteps := 2000000) only [↓ctl, evl, val, valP, own, app, ↓ctlM, wrt, tys, Tryz.ntmps3, Tryz.results3, ↓V_convert, ↓V_bytes, stdl, cond_true, cond_false, Nat.reduceEqDiff, Nat.reduceAdd, Nat.reduceMul, Nat.reduceSub, Nat.reduceLT, Int.reduceEq, Int.reduceLT, Int.reduceLE, Int.reduceNeg, Nat.reduceLeDiff, if_true, if_false, ↓reduceIte, forall_const, implies_true, reduceCtorEq, forall_eq_or_imp, forall_eq, ne_eq]
    refine V_callF mixed (cap := []) (fun _ => l_heldD1 l.length (by omega)) (by simp (maxSteps := 2000000) (contextual := true) only [↓ctl, evl, val, valP, own, app, ↓ctlM, wrt, tys, Tryz.ntmps3, Tryz.results3, ↓V_convert, ↓V_bytes, stdl, cond_true, cond_false, Nat.reduceEqDiff, Nat.reduceAdd, Nat.reduceMul, Nat.reduceSub, Nat.reduceLT, Int.reduceEq, Int.reduceLT, Int.reduceLE, Int.reduceNeg, Nat.reduceLeDiff, if_true, if_false, ↓reduceIte, forall_const, implies_true, reduceCtorEq, forall_eq_or_imp, forall_eq, ne_eq, Nat.le_refl, tm, ml]) (by simp (maxSteps := 2000000) (contextual := true) only [↓ctl, evl, val, valP, own, app, ↓ctlM, wrt, tys, Tryz.ntmps3, Tryz.results3, ↓V_convert, ↓V_bytes, stdl, cond_true, cond_false, Nat.reduceEqDiff, Nat.reduceAdd, Nat.reduceMul, Nat.reduceSub, Nat.reduceLT, Int.reduceEq, Int.reduceLT, Int.reduceLE, Int.reduceNeg, Nat.reduceLeDiff, if_true, if_false, ↓reduceIte, forall_const, implies_true, reduceCtorEq, forall_eq_or_imp, forall_eq, ne_eq]) (by simp (maxSteps := 2000000) (contextual := true) only [↓ctl, evl, val, valP, own, app, ↓ctlM, wrt, tys, Tryz.ntmps3, Tryz.results3, ↓V_convert, ↓V_bytes, stdl, cond_true, cond_false, Nat.reduceEqDiff, Nat.reduceAdd, Nat.reduceMul, Nat.reduceSub, Nat.reduceLT, Int.reduceEq, Int.reduceLT, Int.reduceLE, Int.reduceNeg, Nat.reduceLeDiff, if_true, if_false, ↓reduceIte, forall_const, implies_true, reduceCtorEq, forall_eq_or_imp, forall_eq, ne_eq]) trivial ?_
    simp (maxSteps := 2000000) only [↓ctl, evl, val, valP, own, app, ↓ctlM, wrt, tys, Tryz.ntmps3, Tryz.results3, ↓V_convert, ↓V_bytes, stdl, cond_true, cond_false, Nat.reduceEqDiff, Nat.reduceAdd, Nat.reduceMul, Nat.reduceSub, Nat.reduceLT, Int.reduceEq, Int.reduceLT, Int.reduceLE, Int.reduceNeg, Nat.reduceLeDiff, if_true, if_false, ↓reduceIte, forall_const, implies_true, reduceCtorEq, forall_eq_or_imp, forall_eq, ne_eq, n1]
    refine V_callR mixed (cap := []) (l_toFS f ht.sml) (by simp (maxSteps := 2000000) only [↓ctl, evl, val, valP, own, app, ↓ctlM, wrt, tys, Tryz.ntmps3, Tryz.results3, ↓V_convert, ↓V_bytes, stdl, cond_true, cond_false, Nat.reduceEqDiff, Nat.reduceAdd, Nat.reduceMul, Nat.reduceSub, Nat.reduceLT, Int.reduceEq, Int.reduceLT, Int.reduceLE, Int.reduceNeg, Nat.reduceLeDiff, if_true, if_false, ↓reduceIte, forall_const, implies_true, reduceCtorEq, forall_eq_or_imp, forall_eq, ne_eq, fsAV]) (by simp (maxSteps := 2000000) only [↓ctl, evl, val, valP, own, app, ↓ctlM, wrt, tys, Tryz.ntmps3, Tryz.results3, ↓V_convert, ↓V_bytes, stdl, cond_true, cond_false, Nat.reduceEqDiff, Nat.reduceAdd, Nat.reduceMul, Nat.reduceSub, Nat.reduceLT, Int.reduceEq, Int.reduceLT, Int.reduceLE, Int.reduceNeg, Nat.reduceLeDiff, if_true, if_false, ↓reduceIte, forall_const, implies_true, reduceCtorEq, forall_eq_or_imp, forall_eq, ne_eq]) (by simp (maxSteps := 2000000) only [↓ctl, evl, val, valP, own, app, ↓ctlM, wrt, tys, Tryz.ntmps3, Tryz.results3, ↓V_convert, ↓V_bytes, stdl, cond_true, cond_false, Nat.reduceEqDiff, Nat.reduceAdd, Nat.reduceMul, Nat.reduceSub, Nat.reduceLT, Int.reduceEq, Int.reduceLT, Int.reduceLE, Int.reduceNeg, Nat.reduceLeDiff, if_true, if_false, ↓reduceIte, forall_const, implies_true, reduceCtorEq, forall_eq_or_imp, forall_eq, ne_eq]) trivial ?_
    simp (maxSteps := 2000000) only [↓ctl, evl, val, valP, own, app, ↓ctlM, wrt, tys, Tryz.ntmps3, Tryz.results3, ↓V_convert, ↓V_bytes, stdl, cond_true, cond_false, Nat.reduceEqDiff, Nat.reduceAdd, Nat.reduceMul, Nat.reduceSub, Nat.reduceLT, Int.reduceEq, Int.reduceLT, Int.reduceLE, Int.reduceNeg, Nat.reduceLeDiff, if_true, if_false, ↓reduceIte, forall_const, implies_true, reduceCtorEq, forall_eq_or_imp, forall_eq, ne_eq]
    refine V_callR mixed (cap := []) (hc) (by simp (maxSteps := 2000000) only [↓ctl, evl, val, valP, own, app, ↓ctlM, wrt, tys, Tryz.ntmps3, Tryz.results3, ↓V_convert, ↓V_bytes, stdl, cond_true, cond_false, Nat.reduceEqDiff, Nat.reduceAdd, Nat.reduceMul, Nat.reduceSub, Nat.reduceLT, Int.reduceEq, Int.reduceLT, Int.reduceLE, Int.reduceNeg, Nat.reduceLeDiff, if_true, if_false, ↓reduceIte, forall_const, implies_true, reduceCtorEq, forall_eq_or_imp, forall_eq, ne_eq, fsAV, Nat.le_refl, tq, tn, td]) (by simp (maxSteps := 2000000) only [↓ctl, evl, val, valP, own, app, ↓ctlM, wrt, tys, Tryz.ntmps3, Tryz.results3, ↓V_convert, ↓V_bytes, stdl, cond_true, cond_false, Nat.reduceEqDiff, Nat.reduceAdd, Nat.reduceMul, Nat.reduceSub, Nat.reduceLT, Int.reduceEq, Int.reduceLT, Int.reduceLE, Int.reduceNeg, Nat.reduceLeDiff, if_true, if_false, ↓reduceIte, forall_const, implies_true, reduceCtorEq, forall_eq_or_imp, forall_eq, ne_eq]) (by simp (maxSteps := 2000000) only [↓ctl, evl, val, valP, own, app, ↓ctlM, wrt, tys, Tryz.ntmps3, Tryz.results3, ↓V_convert, ↓V_bytes, stdl, cond_true, cond_false, Nat.reduceEqDiff, Nat.reduceAdd, Nat.reduceMul, Nat.reduceSub, Nat.reduceLT, Int.reduceEq, Int.reduceLT, Int.reduceLE, Int.reduceNeg, Nat.reduceLeDiff, if_true, if_false, ↓reduceIte, forall_const, implies_true, reduceCtorEq, forall_eq_or_imp, forall_eq, ne_eq]) trivial ?_
    simp (maxSteps := 2000000) only [↓ctl, evl, val, valP, own, app, ↓ctlM, wrt, tys, Tryz.ntmps3, Tryz.results3, ↓V_convert, ↓V_bytes, stdl, cond_true, cond_false, Nat.reduceEqDiff, Nat.reduceAdd, Nat.reduceMul, Nat.reduceSub, Nat.reduceLT, Int.reduceEq, Int.reduceLT, Int.reduceLE, Int.reduceNeg, Nat.reduceLeDiff, if_true, if_false, ↓reduceIte, forall_const, implies_true, reduceCtorEq, forall_eq_or_imp, forall_eq, ne_eq]
    refine V_callF mixed (cap := []) (fun _ => l_eqDSame l (by omega)) (by simp (maxSteps := 2000000) (contextual := true) only [↓ctl, evl, val, valP, own, app, ↓ctlM, wrt, tys, Tryz.ntmps3, Tryz.results3, ↓V_convert, ↓V_bytes, stdl, cond_true, cond_false, Nat.reduceEqDiff, Nat.reduceAdd, Nat.reduceMul, Nat.reduceSub, Nat.reduceLT, Int.reduceEq, Int.reduceLT, Int.reduceLE, Int.reduceNeg, Nat.reduceLeDiff, if_true, if_false, ↓reduceIte, forall_const, implies_true, reduceCtorEq, forall_eq_or_imp, forall_eq, ne_eq, Nat.le_refl, tl]) (by simp (maxSteps := 2000000) (contextual := true) only [↓ctl, evl, val, valP, own, app, ↓ctlM, wrt, tys, Tryz.ntmps3, Tryz.results3, ↓V_convert, ↓V_bytes, stdl, cond_true, cond_false, Nat.reduceEqDiff, Nat.reduceAdd, Nat.reduceMul, Nat.reduceSub, Nat.reduceLT, Int.reduceEq, Int.reduceLT, Int.reduceLE, Int.reduceNeg, Nat.reduceLeDiff, if_true, if_false, ↓reduceIte, forall_const, implies_true, reduceCtorEq, forall_eq_or_imp, forall_eq, ne_eq]) (by simp (maxSteps := 2000000) (contextual := true) only [↓ctl, evl, val, valP, own, app, ↓ctlM, wrt, tys, Tryz.ntmps3, Tryz.results3, ↓V_convert, ↓V_bytes, stdl, cond_true, cond_false, Nat.reduceEqDiff, Nat.reduceAdd, Nat.reduceMul, Nat.reduceSub, Nat.reduceLT, Int.reduceEq, Int.reduceLT, Int.reduceLE, Int.reduceNeg, Nat.reduceLeDiff, if_true, if_false, ↓reduceIte, forall_const, implies_true, reduceCtorEq, forall_eq_or_imp, forall_eq, ne_eq]) trivial ?_
    simp (maxSteps := 2000000) only [↓ctl, evl, val, valP, own, app, ↓ctlM, wrt, tys, Tryz.ntmps3, Tryz.results3, ↓V_convert, ↓V_bytes, stdl, cond_true, cond_false, Nat.reduceEqDiff, Nat.reduceAdd, Nat.reduceMul, Nat.reduceSub, Nat.reduceLT, Int.reduceEq, Int.reduceLT, Int.reduceLE, Int.reduceNeg, Nat.reduceLeDiff, if_true, if_false, ↓reduceIte, forall_const, implies_true, reduceCtorEq, forall_eq_or_imp, forall_eq, ne_eq]
    refine V_callF mixed (cap := []) (fun _ => l_heldD1 l.length (by omega)) (by simp (maxSteps := 2000000) (contextual := true) only [↓ctl, evl, val, valP, own, app, ↓ctlM, wrt, tys, Tryz.ntmps3, Tryz.results3, ↓V_convert, ↓V_bytes, stdl, cond_true, cond_false, Nat.reduceEqDiff, Nat.reduceAdd, Nat.reduceMul, Nat.reduceSub, Nat.reduceLT, Int.reduceEq, Int.reduceLT, Int.reduceLE, Int.reduceNeg, Nat.reduceLeDiff, if_true, if_false, ↓reduceIte, forall_const, implies_true, reduceCtorEq, forall_eq_or_imp, forall_eq, ne_eq, Nat.le_refl, tm, ml]) (by simp (maxSteps := 2000000) (contextual := true) only [↓ctl, evl, val, valP, own, app, ↓ctlM, wrt, tys, Tryz.ntmps3, Tryz.results3, ↓V_convert, ↓V_bytes, stdl, cond_true, cond_false, Nat.reduceEqDiff, Nat.reduceAdd, Nat.reduceMul, Nat.reduceSub, Nat.reduceLT, Int.reduceEq, Int.reduceLT, Int.reduceLE, Int.reduceNeg, Nat.reduceLeDiff, if_true, if_false, ↓reduceIte, forall_const, implies_true, reduceCtorEq, forall_eq_or_imp, forall_eq, ne_eq]) (by simp (maxSteps := 2000000) (contextual := true) only [↓ctl, evl, val, valP, own, app, ↓ctlM, wrt, tys, Tryz.ntmps3, Tryz.results3, ↓V_convert, ↓V_bytes, stdl, cond_true, cond_false, Nat.reduceEqDiff, Nat.reduceAdd, Nat.reduceMul, Nat.reduceSub, Nat.reduceLT, Int.reduceEq, Int.reduceLT, Int.reduceLE, Int.reduceNeg, Nat.reduceLeDiff, if_true, if_false, ↓reduceIte, forall_const, implies_true, reduceCtorEq, forall_eq_or_imp, forall_eq, ne_eq]) trivial ?_
    simp (maxSteps := 2000000) only [↓ctl, evl, val, valP, own, app, ↓ctlM, wrt, tys, Tryz.ntmps3, Tryz.results3, ↓V_convert, ↓V_bytes, stdl, cond_true, cond_false, Nat.reduceEqDiff, Nat.reduceAdd, Nat.reduceMul, Nat.reduceSub, Nat.reduceLT, Int.reduceEq, Int.reduceLT, Int.reduceLE, Int.reduceNeg, Nat.reduceLeDiff, if_true, if_false, ↓reduceIte, forall_const, implies_true, reduceCtorEq, forall_eq_or_imp, forall_eq, ne_eq, n1]
end Go.Proofs.YtobnbajakenbeaaGreat


/- The law FnExactFormatFS: whatever file system it is given, it hands back true, and its argument reads behind the call as it read before. -/
set_option linter.all false
namespace Go.Proofs.YtobnbajakenbeaaGreat
open Go Go.Eng Go.ChangeShapes Go.WideShapes Go.ChangeAt Go.RowKit

theorem formatfs_own : ownKnob Go.Proofs.Tryz.prog.godebug = none := by kernel_rfl
set_option maxRecDepth 100000 in
theorem formatfs_contract (H : Type) (enc : TypeId × Value → H) (W : World) (base : Nat) (args : Array Value) (ds gs : List (DataW H)) (before : List MemPlace)
    (hval : ∀ (j : Nat) t v, Go.Proofs.Tryz.f3.params[j]? = some t → args[j]? = some v → Value.okWide Go.Proofs.Tryz.prog W .any base t v)
    (hW : DataW.Whole enc Go.Proofs.Tryz.prog Go.Proofs.Tryz.f3.params.toList Rows.fnExactFormatFSSpec.vars false W args.toList ds gs before) :
    Calls Go.Proofs.Tryz.prog 3 args W fun e W' => ∃ v, e = .returned v ∧ Rows.fnExactFormatFSSpec.post enc Go.Proofs.Tryz.prog Go.Proofs.Tryz.f3 false true false false W args v W' := by
  have hW' := hW
  obtain ⟨p, q, hA0, hV, rfl, hfz, hnd⟩ := hW
  have hA : DataW.TrodAll enc Go.Proofs.Tryz.prog W 0 (fun _ => true) true Go.Proofs.Tryz.f3.params.toList args.toList ds p := hA0
  rw [Go.Proofs.Tryz.params3] at hA hval
  obtain ⟨v0, vs0, d0, ds0, p0, q0, hargs, rfl, rfl, h0, r0⟩ := trodAll_cons hA
  obtain ⟨rfl, rfl, rfl⟩ := trodAll_nil r0
  obtain rfl : args = #[v0] := by cases args; simp_all
  obtain ⟨f, hr, hx⟩ := open_fs (hval 0 26 v0 rfl rfl) h0
  refine ((l_FnExactFormatFS f hr).calls (totR W) W [v0] (totR_ok W) hx).mono fun e W' ⟨he, hb⟩ => ⟨_, he, ?_⟩
  exact bool_post (tb := 4) (by kernel_rfl) Go.Proofs.Tryz.underlying4 rfl (fun hg => by subst hg; rfl) (by kernel_rfl) (by kernel_rfl) (by kernel_rfl)
    (by rw [Go.Proofs.Tryz.params3]; intro t ht; simp only [List.mem_singleton] at ht; subst ht; exact of_decide_eq_true (by kernel_rfl)) hW' hb

set_option maxRecDepth 100000 in
theorem formatfs_lifted (os : Os) (started : os.Started) (H : Type) (enc : TypeId × Value → H) :
    ReturnsInHanded {} Go.Proofs.Tryz.checked os 3 .any (Rows.fnExactFormatFSSpec.pre6 enc Go.Proofs.Tryz.prog Go.Proofs.Tryz.f3 Rows.fnExactFormatFSRow.domain false) (Rows.fnExactFormatFSSpec.post enc Go.Proofs.Tryz.prog Go.Proofs.Tryz.f3 false true false false) := by
  refine returnsInHanded_of_change (C := Go.Proofs.Tryz.checked) formatfs_own started (by kernel_rfl) Go.Proofs.Tryz.func3
    (ChangeSpec.witness6 (enc := enc) (C := Go.Proofs.Tryz.checked) false ⟨#[], #[.agg #[.int .i64 0, .slice none 0 0, .slice none 0 0, .slice none 0 0]], []⟩ 8 (by kernel_rfl) (by kernel_rfl) (by kernel_rfl) (by kernel_rfl)) ?_
  intro W base args ds gs before hval hW _ _
  exact formatfs_contract H enc W base args ds gs before hval hW

theorem formatfs_said : Rows.FnExactFormatFSSaid :=
  OpenClaim.holds_of_wide 3 Go.Proofs.Tryz.f3 rfl rfl rfl rfl rfl rfl rfl ⟨rfl, rfl, rfl, rfl, rfl⟩ rfl rfl rfl rfl rfl (by kernel_rfl) Go.Proofs.Tryz.func3 (by kernel_rfl)
    (of_decide_eq_true (by kernel_rfl)) (by unfold Func.isWrapper; first | (rw [if_pos (by decide +kernel)]; kernel_rfl) | (rw [if_neg (by decide +kernel)]; exact ⟨rfl, rfl⟩))
    (fun os started H enc _ => formatfs_lifted os started H enc)
end Go.Proofs.YtobnbajakenbeaaGreat

