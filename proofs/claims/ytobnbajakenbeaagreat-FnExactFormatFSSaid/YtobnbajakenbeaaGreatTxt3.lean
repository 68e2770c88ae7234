/- FnExactFormatFS: for every file system as argument the law hands back true, and the argument reads behind the call as it read before. No condition. -/
import Derived.Test.YtobnbajakenbeaaGreatTxt2
set_option linter.all false
set_option linter.defProp false
/- Contracts: the law's own functions for rows without nested slices: marks.  -/
set_option linter.all false
set_option maxRecDepth 10000
set_option maxHeartbeats 1000000
namespace Go.Proofs.YtobnbajakenbeaaGreat
open Go Go.Eng

def digs (k : Nat) (acc : List UInt8) : List UInt8 := if h : k = 0 then acc else digs (k / 10) (UInt8.ofNat (48 + k % 10) :: acc)
termination_by k
decreasing_by omega
theorem digs_zero (acc : List UInt8) : digs 0 acc = acc := by unfold digs; simp
theorem digs_step {k : Nat} (h : 0 < k) (acc : List UInt8) : digs k acc = digs (k / 10) (UInt8.ofNat (48 + k % 10) :: acc) := by rw [digs]; rw [dif_neg (by omega)]
def markT (k : Nat) : List UInt8 := 109 :: digs k []
theorem byte_row (m : Nat) (h : m < 256) : [[Cell.v (.int .u8 (m : Int))]] = [UInt8.ofNat m].map byteRow := by
  have : (UInt8.ofNat m).toNat = m := by simp; omega
  simp only [List.map_cons, List.map_nil, byteRow, this]
theorem byte_one (m : Nat) (h : m < 256) : isBytes [[Cell.v (.int .u8 (m : Int))]] ∧ ([[Cell.v (.int .u8 (m : Int))]]).map rowByte = [UInt8.ofNat m] := by
  rw [byte_row m h]
  exact ⟨⟨_, rfl⟩, rowBytes_map _⟩
theorem l_markText (k : Nat) (h0 : 0 < k) (h1 : k ≤ 1099511627776) : Gives Go.Proofs.Tryz.prog 70 [I k] (str (markT k)) := by
  refine gives_of_V mixed Go.Proofs.Tryz.call70 Go.Proofs.Tryz.func70 rfl (by rw [Go.Proofs.Tryz.ntmps70]; simp) ?_
  have n1 : ¬ (k : Int) ≤ 0 := by omega
  simp (maxSteps := 2000000) only [↓ctl, evl, val, valP, own, app, wrt, tys, Tryz.ntmps70, Tryz.results70, ↓V_convert, ↓V_bytes, stdl, cond_true, cond_false, Nat.reduceEqDiff, Nat.reduceAdd, Nat.reduceMul, Nat.reduceSub, Nat.reduceLT, Int.reduceEq, Int.reduceLT, Int.reduceLE, Int.reduceNeg, Nat.reduceLeDiff, if_true, if_false, ↓reduceIte, forall_const, implies_true, reduceCtorEq, forall_eq_or_imp, forall_eq, ne_eq, n1]
  refine V_loopI mixed (ι := {p : Nat × List UInt8 // p.1 ≤ k ∧ p.2.length + p.1 ≤ k ∧ digs k [] = digs p.1 p.2}) (fun p => ⟨[(0, true, I p.1.1), (3, true, Sx p.1.2)], [], 0, 20⟩) (fun p => p.1.1) ⟨(k, []), by simp⟩ ?_ ?_ ?_
  · refine weakI ?_
    simp (maxSteps := 2000000) only [↓ctl, evl, val, valP, own, app, wrt, tys, Tryz.ntmps70, Tryz.results70, ↓V_convert, ↓V_bytes, stdl, cond_true, cond_false, Nat.reduceEqDiff, Nat.reduceAdd, Nat.reduceMul, Nat.reduceSub, Nat.reduceLT, Int.reduceEq, Int.reduceLT, Int.reduceLE, Int.reduceNeg, Nat.reduceLeDiff, if_true, if_false, ↓reduceIte, forall_const, implies_true, reduceCtorEq, forall_eq_or_imp, forall_eq, ne_eq]
  · trivial
  · rintro ⟨⟨q, acc⟩, g1, g2, g3⟩
    simp only at g1 g2 g3
    by_cases hq : q = 0
    · have f1 : ¬ (q : Int) > 0 := by omega
      simp (maxSteps := 2000000) only [↓ctl, evl, val, valP, own, app, wrt, tys, Tryz.ntmps70, Tryz.results70, ↓V_convert, ↓V_bytes, stdl, cond_true, cond_false, Nat.reduceEqDiff, Nat.reduceAdd, Nat.reduceMul, Nat.reduceSub, Nat.reduceLT, Int.reduceEq, Int.reduceLT, Int.reduceLE, Int.reduceNeg, Nat.reduceLeDiff, if_true, if_false, ↓reduceIte, forall_const, implies_true, reduceCtorEq, forall_eq_or_imp, forall_eq, ne_eq, f1]
      subst hq
      refine ⟨by omega, ?_⟩
      rw [digs_zero] at g3
      unfold markT; rw [g3]
    · have f1 : (q : Int) > 0 := by omega
      have e3 : IntKind.u8.wrap (IntKind.i64.wrap (48 + remV (q : Int) 10)) = ((48 + q % 10 : Nat) : Int) := by
        rw [remV_pos (by omega), wrap_id (by omega) (by omega), wrap_u8 (by omega) (by omega)]; omega
      have e4 : quoV .i64 (q : Int) 10 = ((q / 10 : Nat) : Int) := by rw [quoV_pos (by omega) (by omega) (by omega)]; omega
      obtain ⟨b1, b2⟩ := byte_one (48 + q % 10) (by omega)
      simp (maxSteps := 2000000) only [↓ctl, evl, val, valP, own, app, wrt, tys, Tryz.ntmps70, Tryz.results70, ↓V_convert, ↓V_bytes, stdl, cond_true, cond_false, Nat.reduceEqDiff, Nat.reduceAdd, Nat.reduceMul, Nat.reduceSub, Nat.reduceLT, Int.reduceEq, Int.reduceLT, Int.reduceLE, Int.reduceNeg, Nat.reduceLeDiff, if_true, if_false, ↓reduceIte, forall_const, implies_true, reduceCtorEq, forall_eq_or_imp, forall_eq, ne_eq, f1, litChunk, e3, e4]
      refine ⟨b1, by omega, V_backI ⟨(q / 10, UInt8.ofNat (48 + q % 10) :: acc), ?_⟩ (by show q / 10 < q; omega) (weakI ?_)⟩
      · simp only [List.length_cons]
        exact ⟨by omega, by omega, by rw [g3, digs_step (by omega)]⟩
      · simp (maxSteps := 2000000) only [↓ctl, evl, val, valP, own, app, wrt, tys, Tryz.ntmps70, Tryz.results70, ↓V_convert, ↓V_bytes, stdl, cond_true, cond_false, Nat.reduceEqDiff, Nat.reduceAdd, Nat.reduceMul, Nat.reduceSub, Nat.reduceLT, Int.reduceEq, Int.reduceLT, Int.reduceLE, Int.reduceNeg, Nat.reduceLeDiff, if_true, if_false, ↓reduceIte, forall_const, implies_true, reduceCtorEq, forall_eq_or_imp, forall_eq, ne_eq]
        have b3 := (List.cons.inj b2).1
        rw [b3]
        try exact ⟨rfl, rfl⟩
/-! ### marks -/
def mkI (k i : Nat) : Int := (k + i : Nat)
def mkS (k i : Nat) : List UInt8 := markT (k + i)
def mkQ (k i : Nat) : Quota := ⟨(k + 2 * i : Nat), (k + 2 * i + 1 : Nat)⟩
def mkA (k i : Nat) : Acl := ⟨(k + 3 * i : Nat), (k + 3 * i + 1 : Nat), (k + 3 * i + 2 : Nat)⟩
theorem l_markIntS (a : List Int) (k : Nat) (h1 : k + a.length ≤ 1099511627776) : Turns Go.Proofs.Tryz.prog 68 [.sl 0 1 0 a.length, I k] 1 [(0, .row 3 1 (a.map intRow))] (.int .i64 (k + a.length : Nat)) [(0, .row 3 1 ((marks (mkI k) a.length).map intRow))] := by
  refine turns_of_V mixed Go.Proofs.Tryz.call68 Go.Proofs.Tryz.func68 rfl (by rw [Go.Proofs.Tryz.ntmps68]; simp) (by simp (maxSteps := 2000000) only [↓ctl, evl, val, valP, own, app, wrt, tys, Tryz.ntmps68, Tryz.results68, ↓V_convert, ↓V_bytes, stdl, cond_true, cond_false, Nat.reduceEqDiff, Nat.reduceAdd, Nat.reduceMul, Nat.reduceSub, Nat.reduceLT, Int.reduceEq, Int.reduceLT, Int.reduceLE, Int.reduceNeg, Nat.reduceLeDiff, if_true, if_false, ↓reduceIte, forall_const, implies_true, reduceCtorEq, forall_eq_or_imp, forall_eq, ne_eq]) fun o z => ?_
  simp (maxSteps := 2000000) only [↓ctl, evl, val, valP, own, app, wrt, tys, Tryz.ntmps68, Tryz.results68, ↓V_convert, ↓V_bytes, stdl, cond_true, cond_false, Nat.reduceEqDiff, Nat.reduceAdd, Nat.reduceMul, Nat.reduceSub, Nat.reduceLT, Int.reduceEq, Int.reduceLT, Int.reduceLE, Int.reduceNeg, Nat.reduceLeDiff, if_true, if_false, ↓reduceIte, forall_const, implies_true, reduceCtorEq, forall_eq_or_imp, forall_eq, ne_eq]
  refine V_loopI mixed (ι := {i : Nat // i ≤ a.length}) (fun i => ⟨[(0, true, .sl 0 1 0 a.length), (1, true, I (k + i.1 : Nat)), (5, true, I i.1)], [(0, .row 3 1 (markR intRow (mkI k) a i.1)), (1, .pin 0 (o 0) (z 0))], 2, 19⟩) (fun i => a.length - i.1)  ⟨0, by omega⟩ ?_ ?_ ?_
  · refine weakI ?_
    simp (maxSteps := 2000000) only [↓ctl, evl, val, valP, own, app, wrt, tys, Tryz.ntmps68, Tryz.results68, ↓V_convert, ↓V_bytes, stdl, cond_true, cond_false, Nat.reduceEqDiff, Nat.reduceAdd, Nat.reduceMul, Nat.reduceSub, Nat.reduceLT, Int.reduceEq, Int.reduceLT, Int.reduceLE, Int.reduceNeg, Nat.reduceLeDiff, if_true, if_false, ↓reduceIte, forall_const, implies_true, reduceCtorEq, forall_eq_or_imp, forall_eq, ne_eq]
    exact ⟨⟨rfl, rfl⟩, congrArg (Chunk.row _ _) (markR_zero ..)⟩
  · trivial
  · rintro ⟨i, hi⟩
    by_cases hlt : i < a.length
    · have g1 := markR_length intRow (mkI k) a i hi
      have g2 := markR_getD default intRow (mkI k) a i hlt
      simp (maxSteps := 2000000) only [↓ctl, evl, val, valP, own, app, wrt, tys, Tryz.ntmps68, Tryz.results68, ↓V_convert, ↓V_bytes, stdl, cond_true, cond_false, Nat.reduceEqDiff, Nat.reduceAdd, Nat.reduceMul, Nat.reduceSub, Nat.reduceLT, Int.reduceEq, Int.reduceLT, Int.reduceLE, Int.reduceNeg, Nat.reduceLeDiff, if_true, if_false, ↓reduceIte, forall_const, implies_true, reduceCtorEq, forall_eq_or_imp, forall_eq, ne_eq, hlt, g1, g2]
      refine V_backI ⟨i + 1, by omega⟩ (by show _ - (i + 1) < _; omega) (weakI ?_)
      simp (maxSteps := 2000000) only [↓ctl, evl, val, valP, own, app, wrt, tys, Tryz.ntmps68, Tryz.results68, ↓V_convert, ↓V_bytes, stdl, cond_true, cond_false, Nat.reduceEqDiff, Nat.reduceAdd, Nat.reduceMul, Nat.reduceSub, Nat.reduceLT, Int.reduceEq, Int.reduceLT, Int.reduceLE, Int.reduceNeg, Nat.reduceLeDiff, if_true, if_false, ↓reduceIte, forall_const, implies_true, reduceCtorEq, forall_eq_or_imp, forall_eq, ne_eq]
      rw [wrap_id (by omega) (by omega), wrap_id (by omega) (by omega)]
      exact ⟨⟨rfl, rfl⟩, congrArg (Chunk.row _ _) (markR_set intRow (mkI k) a i hlt)⟩
    · have hn : i = a.length := by omega
      subst hn
      simp (maxSteps := 2000000) only [↓ctl, evl, val, valP, own, app, wrt, tys, Tryz.ntmps68, Tryz.results68, ↓V_convert, ↓V_bytes, stdl, cond_true, cond_false, Nat.reduceEqDiff, Nat.reduceAdd, Nat.reduceMul, Nat.reduceSub, Nat.reduceLT, Int.reduceEq, Int.reduceLT, Int.reduceLE, Int.reduceNeg, Nat.reduceLeDiff, if_true, if_false, ↓reduceIte, forall_const, implies_true, reduceCtorEq, forall_eq_or_imp, forall_eq, ne_eq, hlt]
      exact congrArg (Chunk.row _ _) (markR_end _ _ _ _ rfl)
theorem l_markStringS (a : List (List UInt8)) (k : Nat) (h0 : 0 < k) (h1 : k + 1 * a.length ≤ 1099511627776) : Turns Go.Proofs.Tryz.prog 34 [.sl 0 1 0 a.length, I k] 1 [(0, .row 9 1 (a.map strRow))] (.int .i64 (k + 1 * a.length : Nat)) [(0, .row 9 1 ((marks (mkS k) a.length).map strRow))] := by
  refine turns_of_V mixed Go.Proofs.Tryz.call34 Go.Proofs.Tryz.func34 rfl (by rw [Go.Proofs.Tryz.ntmps34]; simp) (by simp (maxSteps := 2000000) only [↓ctl, evl, val, valP, own, app, wrt, tys, Tryz.ntmps34, Tryz.results34, ↓V_convert, ↓V_bytes, stdl, cond_true, cond_false, Nat.reduceEqDiff, Nat.reduceAdd, Nat.reduceMul, Nat.reduceSub, Nat.reduceLT, Int.reduceEq, Int.reduceLT, Int.reduceLE, Int.reduceNeg, Nat.reduceLeDiff, if_true, if_false, ↓reduceIte, forall_const, implies_true, reduceCtorEq, forall_eq_or_imp, forall_eq, ne_eq]) fun o z => ?_
  simp (maxSteps := 2000000) only [↓ctl, evl, val, valP, own, app, wrt, tys, Tryz.ntmps34, Tryz.results34, ↓V_convert, ↓V_bytes, stdl, cond_true, cond_false, Nat.reduceEqDiff, Nat.reduceAdd, Nat.reduceMul, Nat.reduceSub, Nat.reduceLT, Int.reduceEq, Int.reduceLT, Int.reduceLE, Int.reduceNeg, Nat.reduceLeDiff, if_true, if_false, ↓reduceIte, forall_const, implies_true, reduceCtorEq, forall_eq_or_imp, forall_eq, ne_eq]
  refine V_loopI mixed (ι := {i : Nat // i ≤ a.length}) (fun i => ⟨[(0, true, .sl 0 1 0 a.length), (1, true, I (k + 1 * i.1 : Nat)), (5, true, I i.1)], [(0, .row 9 1 (markR strRow (mkS k) a i.1)), (1, .pin 0 (o 0) (z 0))], 2, 20⟩) (fun i => a.length - i.1)  ⟨0, by omega⟩ ?_ ?_ ?_
  · refine weakI ?_
    simp (maxSteps := 2000000) only [↓ctl, evl, val, valP, own, app, wrt, tys, Tryz.ntmps34, Tryz.results34, ↓V_convert, ↓V_bytes, stdl, cond_true, cond_false, Nat.reduceEqDiff, Nat.reduceAdd, Nat.reduceMul, Nat.reduceSub, Nat.reduceLT, Int.reduceEq, Int.reduceLT, Int.reduceLE, Int.reduceNeg, Nat.reduceLeDiff, if_true, if_false, ↓reduceIte, forall_const, implies_true, reduceCtorEq, forall_eq_or_imp, forall_eq, ne_eq]
    exact ⟨⟨rfl, rfl⟩, congrArg (Chunk.row _ _) (markR_zero ..)⟩
  · trivial
  · rintro ⟨i, hi⟩
    by_cases hlt : i < a.length
    · have g1 := markR_length strRow (mkS k) a i hi
      have g2 := markR_getD default strRow (mkS k) a i hlt
      have g3 : ∀ x, ((markR strRow (mkS k) a i).set i x).getD i [] = x := fun x => getD_set_same _ _ _ _ (by rw [g1]; exact hlt)
      simp (maxSteps := 2000000) only [↓ctl, evl, val, valP, own, app, wrt, tys, Tryz.ntmps34, Tryz.results34, ↓V_convert, ↓V_bytes, stdl, cond_true, cond_false, Nat.reduceEqDiff, Nat.reduceAdd, Nat.reduceMul, Nat.reduceSub, Nat.reduceLT, Int.reduceEq, Int.reduceLT, Int.reduceLE, Int.reduceNeg, Nat.reduceLeDiff, if_true, if_false, ↓reduceIte, forall_const, implies_true, reduceCtorEq, forall_eq_or_imp, forall_eq, ne_eq, hlt, g1, g2]
      refine V_callF mixed (cap := []) (fun _ => l_markText (k + 1 * i) (by omega) (by omega)) (by simp (maxSteps := 2000000) (contextual := true) only [↓ctl, evl, val, valP, own, app, wrt, tys, Tryz.ntmps34, Tryz.results34, ↓V_convert, ↓V_bytes, stdl, cond_true, cond_false, Nat.reduceEqDiff, Nat.reduceAdd, Nat.reduceMul, Nat.reduceSub, Nat.reduceLT, Int.reduceEq, Int.reduceLT, Int.reduceLE, Int.reduceNeg, Nat.reduceLeDiff, if_true, if_false, ↓reduceIte, forall_const, implies_true, reduceCtorEq, forall_eq_or_imp, forall_eq, ne_eq]) (by simp (maxSteps := 2000000) (contextual := true) only [↓ctl, evl, val, valP, own, app, wrt, tys, Tryz.ntmps34, Tryz.results34, ↓V_convert, ↓V_bytes, stdl, cond_true, cond_false, Nat.reduceEqDiff, Nat.reduceAdd, Nat.reduceMul, Nat.reduceSub, Nat.reduceLT, Int.reduceEq, Int.reduceLT, Int.reduceLE, Int.reduceNeg, Nat.reduceLeDiff, if_true, if_false, ↓reduceIte, forall_const, implies_true, reduceCtorEq, forall_eq_or_imp, forall_eq, ne_eq]) (by simp (maxSteps := 2000000) (contextual := true) only [↓ctl, evl, val, valP, own, app, wrt, tys, Tryz.ntmps34, Tryz.results34, ↓V_convert, ↓V_bytes, stdl, cond_true, cond_false, Nat.reduceEqDiff, Nat.reduceAdd, Nat.reduceMul, Nat.reduceSub, Nat.reduceLT, Int.reduceEq, Int.reduceLT, Int.reduceLE, Int.reduceNeg, Nat.reduceLeDiff, if_true, if_false, ↓reduceIte, forall_const, implies_true, reduceCtorEq, forall_eq_or_imp, forall_eq, ne_eq]) trivial ?_
      simp (maxSteps := 2000000) only [↓ctl, evl, val, valP, own, app, wrt, tys, Tryz.ntmps34, Tryz.results34, ↓V_convert, ↓V_bytes, stdl, cond_true, cond_false, Nat.reduceEqDiff, Nat.reduceAdd, Nat.reduceMul, Nat.reduceSub, Nat.reduceLT, Int.reduceEq, Int.reduceLT, Int.reduceLE, Int.reduceNeg, Nat.reduceLeDiff, if_true, if_false, ↓reduceIte, forall_const, implies_true, reduceCtorEq, forall_eq_or_imp, forall_eq, ne_eq, hlt, g1, g2]
      refine V_backI ⟨i + 1, by omega⟩ (by show _ - (i + 1) < _; omega) (weakI ?_)
      simp (maxSteps := 2000000) only [↓ctl, evl, val, valP, own, app, wrt, tys, Tryz.ntmps34, Tryz.results34, ↓V_convert, ↓V_bytes, stdl, cond_true, cond_false, Nat.reduceEqDiff, Nat.reduceAdd, Nat.reduceMul, Nat.reduceSub, Nat.reduceLT, Int.reduceEq, Int.reduceLT, Int.reduceLE, Int.reduceNeg, Nat.reduceLeDiff, if_true, if_false, ↓reduceIte, forall_const, implies_true, reduceCtorEq, forall_eq_or_imp, forall_eq, ne_eq]
      rw [wrap_id (by omega) (by omega), wrap_id (by omega) (by omega)]
      refine ⟨⟨by omega, rfl⟩, congrArg (Chunk.row _ _) ?_⟩
      rw [Nat.one_mul]
      exact markR_set strRow (mkS k) a i hlt
    · have hn : i = a.length := by omega
      subst hn
      simp (maxSteps := 2000000) only [↓ctl, evl, val, valP, own, app, wrt, tys, Tryz.ntmps34, Tryz.results34, ↓V_convert, ↓V_bytes, stdl, cond_true, cond_false, Nat.reduceEqDiff, Nat.reduceAdd, Nat.reduceMul, Nat.reduceSub, Nat.reduceLT, Int.reduceEq, Int.reduceLT, Int.reduceLE, Int.reduceNeg, Nat.reduceLeDiff, if_true, if_false, ↓reduceIte, forall_const, implies_true, reduceCtorEq, forall_eq_or_imp, forall_eq, ne_eq, hlt]
      exact congrArg (Chunk.row _ _) (markR_end _ _ _ _ rfl)
theorem l_markQuotaS (a : List Quota) (k : Nat) (h1 : k + 2 * a.length ≤ 1099511627776) : Turns Go.Proofs.Tryz.prog 32 [.sl 0 2 0 a.length, I k] 1 [(0, .row 78 2 (a.map quotaRow))] (.int .i64 (k + 2 * a.length : Nat)) [(0, .row 78 2 ((marks (mkQ k) a.length).map quotaRow))] := by
  refine turns_of_V mixed Go.Proofs.Tryz.call32 Go.Proofs.Tryz.func32 rfl (by rw [Go.Proofs.Tryz.ntmps32]; simp) (by simp (maxSteps := 2000000) only [↓ctl, evl, val, valP, own, app, wrt, tys, Tryz.ntmps32, Tryz.results32, ↓V_convert, ↓V_bytes, stdl, cond_true, cond_false, Nat.reduceEqDiff, Nat.reduceAdd, Nat.reduceMul, Nat.reduceSub, Nat.reduceLT, Int.reduceEq, Int.reduceLT, Int.reduceLE, Int.reduceNeg, Nat.reduceLeDiff, if_true, if_false, ↓reduceIte, forall_const, implies_true, reduceCtorEq, forall_eq_or_imp, forall_eq, ne_eq]) fun o z => ?_
  simp (maxSteps := 2000000) only [↓ctl, evl, val, valP, own, app, wrt, tys, Tryz.ntmps32, Tryz.results32, ↓V_convert, ↓V_bytes, stdl, cond_true, cond_false, Nat.reduceEqDiff, Nat.reduceAdd, Nat.reduceMul, Nat.reduceSub, Nat.reduceLT, Int.reduceEq, Int.reduceLT, Int.reduceLE, Int.reduceNeg, Nat.reduceLeDiff, if_true, if_false, ↓reduceIte, forall_const, implies_true, reduceCtorEq, forall_eq_or_imp, forall_eq, ne_eq]
  refine V_loopI mixed (ι := {i : Nat // i ≤ a.length}) (fun i => ⟨[(0, true, .sl 0 2 0 a.length), (1, true, I (k + 2 * i.1 : Nat)), (5, true, I i.1)], [(0, .row 78 2 (markR quotaRow (mkQ k) a i.1)), (1, .pin 0 (o 0) (z 0))], 2, 27⟩) (fun i => a.length - i.1)  ⟨0, by omega⟩ ?_ ?_ ?_
  · refine weakI ?_
    simp (maxSteps := 2000000) only [↓ctl, evl, val, valP, own, app, wrt, tys, Tryz.ntmps32, Tryz.results32, ↓V_convert, ↓V_bytes, stdl, cond_true, cond_false, Nat.reduceEqDiff, Nat.reduceAdd, Nat.reduceMul, Nat.reduceSub, Nat.reduceLT, Int.reduceEq, Int.reduceLT, Int.reduceLE, Int.reduceNeg, Nat.reduceLeDiff, if_true, if_false, ↓reduceIte, forall_const, implies_true, reduceCtorEq, forall_eq_or_imp, forall_eq, ne_eq]
    exact ⟨⟨rfl, rfl⟩, congrArg (Chunk.row _ _) (markR_zero ..)⟩
  · trivial
  · rintro ⟨i, hi⟩
    by_cases hlt : i < a.length
    · have g1 := markR_length quotaRow (mkQ k) a i hi
      have g2 := markR_getD default quotaRow (mkQ k) a i hlt
      have g3 : ∀ x, ((markR quotaRow (mkQ k) a i).set i x).getD i [] = x := fun x => getD_set_same _ _ _ _ (by rw [g1]; exact hlt)
      have w1 : IntKind.i64.wrap (((k + 2 * i : Nat) : Int) + 1) = ((k + 2 * i + 1 : Nat) : Int) := by rw [wrap_id (by omega) (by omega)]; omega
      have w2 : IntKind.i64.wrap (((k + 2 * i + 1 : Nat) : Int) + 1) = ((k + 2 * (i + 1) : Nat) : Int) := by rw [wrap_id (by omega) (by omega)]; omega
      simp (maxSteps := 2000000) only [↓ctl, evl, val, valP, own, app, wrt, tys, Tryz.ntmps32, Tryz.results32, ↓V_convert, ↓V_bytes, stdl, cond_true, cond_false, Nat.reduceEqDiff, Nat.reduceAdd, Nat.reduceMul, Nat.reduceSub, Nat.reduceLT, Int.reduceEq, Int.reduceLT, Int.reduceLE, Int.reduceNeg, Nat.reduceLeDiff, if_true, if_false, ↓reduceIte, forall_const, implies_true, reduceCtorEq, forall_eq_or_imp, forall_eq, ne_eq, hlt, g1, g2, g3, List.set_set, quotaRow_e, w1, w2]
      refine V_backI ⟨i + 1, by omega⟩ (by show _ - (i + 1) < _; omega) (weakI ?_)
      simp (maxSteps := 2000000) only [↓ctl, evl, val, valP, own, app, wrt, tys, Tryz.ntmps32, Tryz.results32, ↓V_convert, ↓V_bytes, stdl, cond_true, cond_false, Nat.reduceEqDiff, Nat.reduceAdd, Nat.reduceMul, Nat.reduceSub, Nat.reduceLT, Int.reduceEq, Int.reduceLT, Int.reduceLE, Int.reduceNeg, Nat.reduceLeDiff, if_true, if_false, ↓reduceIte, forall_const, implies_true, reduceCtorEq, forall_eq_or_imp, forall_eq, ne_eq]
      rw [wrap_id (by omega) (by omega)]
      exact ⟨rfl, congrArg (Chunk.row _ _) (markR_set quotaRow (mkQ k) a i hlt)⟩
    · have hn : i = a.length := by omega
      subst hn
      simp (maxSteps := 2000000) only [↓ctl, evl, val, valP, own, app, wrt, tys, Tryz.ntmps32, Tryz.results32, ↓V_convert, ↓V_bytes, stdl, cond_true, cond_false, Nat.reduceEqDiff, Nat.reduceAdd, Nat.reduceMul, Nat.reduceSub, Nat.reduceLT, Int.reduceEq, Int.reduceLT, Int.reduceLE, Int.reduceNeg, Nat.reduceLeDiff, if_true, if_false, ↓reduceIte, forall_const, implies_true, reduceCtorEq, forall_eq_or_imp, forall_eq, ne_eq, hlt]
      exact congrArg (Chunk.row _ _) (markR_end _ _ _ _ rfl)
theorem l_markAclEntryS (a : List Acl) (k : Nat) (h1 : k + 3 * a.length ≤ 1099511627776) : Turns Go.Proofs.Tryz.prog 69 [.sl 0 3 0 a.length, I k] 1 [(0, .row 130 3 (a.map aclRow))] (.int .i64 (k + 3 * a.length : Nat)) [(0, .row 130 3 ((marks (mkA k) a.length).map aclRow))] := by
  refine turns_of_V mixed Go.Proofs.Tryz.call69 Go.Proofs.Tryz.func69 rfl (by rw [Go.Proofs.Tryz.ntmps69]; simp) (by simp (maxSteps := 2000000) only [↓ctl, evl, val, valP, own, app, wrt, tys, Tryz.ntmps69, Tryz.results69, ↓V_convert, ↓V_bytes, stdl, cond_true, cond_false, Nat.reduceEqDiff, Nat.reduceAdd, Nat.reduceMul, Nat.reduceSub, Nat.reduceLT, Int.reduceEq, Int.reduceLT, Int.reduceLE, Int.reduceNeg, Nat.reduceLeDiff, if_true, if_false, ↓reduceIte, forall_const, implies_true, reduceCtorEq, forall_eq_or_imp, forall_eq, ne_eq]) fun o z => ?_
  simp (maxSteps := 2000000) only [↓ctl, evl, val, valP, own, app, wrt, tys, Tryz.ntmps69, Tryz.results69, ↓V_convert, ↓V_bytes, stdl, cond_true, cond_false, Nat.reduceEqDiff, Nat.reduceAdd, Nat.reduceMul, Nat.reduceSub, Nat.reduceLT, Int.reduceEq, Int.reduceLT, Int.reduceLE, Int.reduceNeg, Nat.reduceLeDiff, if_true, if_false, ↓reduceIte, forall_const, implies_true, reduceCtorEq, forall_eq_or_imp, forall_eq, ne_eq]
  refine V_loopI mixed (ι := {i : Nat // i ≤ a.length}) (fun i => ⟨[(0, true, .sl 0 3 0 a.length), (1, true, I (k + 3 * i.1 : Nat)), (5, true, I i.1)], [(0, .row 130 3 (markR aclRow (mkA k) a i.1)), (1, .pin 0 (o 0) (z 0))], 2, 34⟩) (fun i => a.length - i.1)  ⟨0, by omega⟩ ?_ ?_ ?_
  · refine weakI ?_
    simp (maxSteps := 2000000) only [↓ctl, evl, val, valP, own, app, wrt, tys, Tryz.ntmps69, Tryz.results69, ↓V_convert, ↓V_bytes, stdl, cond_true, cond_false, Nat.reduceEqDiff, Nat.reduceAdd, Nat.reduceMul, Nat.reduceSub, Nat.reduceLT, Int.reduceEq, Int.reduceLT, Int.reduceLE, Int.reduceNeg, Nat.reduceLeDiff, if_true, if_false, ↓reduceIte, forall_const, implies_true, reduceCtorEq, forall_eq_or_imp, forall_eq, ne_eq]
    exact ⟨⟨rfl, rfl⟩, congrArg (Chunk.row _ _) (markR_zero ..)⟩
  · trivial
  · rintro ⟨i, hi⟩
    by_cases hlt : i < a.length
    · have g1 := markR_length aclRow (mkA k) a i hi
      have g2 := markR_getD default aclRow (mkA k) a i hlt
      have g3 : ∀ x, ((markR aclRow (mkA k) a i).set i x).getD i [] = x := fun x => getD_set_same _ _ _ _ (by rw [g1]; exact hlt)
      have w1 : IntKind.i64.wrap (((k + 3 * i : Nat) : Int) + 1) = ((k + 3 * i + 1 : Nat) : Int) := by rw [wrap_id (by omega) (by omega)]; omega
      have w2 : IntKind.i64.wrap (((k + 3 * i + 1 : Nat) : Int) + 1) = ((k + 3 * i + 2 : Nat) : Int) := by rw [wrap_id (by omega) (by omega)]; omega
      have w3 : IntKind.i64.wrap (((k + 3 * i + 2 : Nat) : Int) + 1) = ((k + 3 * (i + 1) : Nat) : Int) := by rw [wrap_id (by omega) (by omega)]; omega
      simp (maxSteps := 2000000) only [↓ctl, evl, val, valP, own, app, wrt, tys, Tryz.ntmps69, Tryz.results69, ↓V_convert, ↓V_bytes, stdl, cond_true, cond_false, Nat.reduceEqDiff, Nat.reduceAdd, Nat.reduceMul, Nat.reduceSub, Nat.reduceLT, Int.reduceEq, Int.reduceLT, Int.reduceLE, Int.reduceNeg, Nat.reduceLeDiff, if_true, if_false, ↓reduceIte, forall_const, implies_true, reduceCtorEq, forall_eq_or_imp, forall_eq, ne_eq, hlt, g1, g2, g3, List.set_set, aclRow_e, w1, w2, w3]
      refine V_backI ⟨i + 1, by omega⟩ (by show _ - (i + 1) < _; omega) (weakI ?_)
      simp (maxSteps := 2000000) only [↓ctl, evl, val, valP, own, app, wrt, tys, Tryz.ntmps69, Tryz.results69, ↓V_convert, ↓V_bytes, stdl, cond_true, cond_false, Nat.reduceEqDiff, Nat.reduceAdd, Nat.reduceMul, Nat.reduceSub, Nat.reduceLT, Int.reduceEq, Int.reduceLT, Int.reduceLE, Int.reduceNeg, Nat.reduceLeDiff, if_true, if_false, ↓reduceIte, forall_const, implies_true, reduceCtorEq, forall_eq_or_imp, forall_eq, ne_eq]
      rw [wrap_id (by omega) (by omega)]
      exact ⟨rfl, congrArg (Chunk.row _ _) (markR_set aclRow (mkA k) a i hlt)⟩
    · have hn : i = a.length := by omega
      subst hn
      simp (maxSteps := 2000000) only [↓ctl, evl, val, valP, own, app, wrt, tys, Tryz.ntmps69, Tryz.results69, ↓V_convert, ↓V_bytes, stdl, cond_true, cond_false, Nat.reduceEqDiff, Nat.reduceAdd, Nat.reduceMul, Nat.reduceSub, Nat.reduceLT, Int.reduceEq, Int.reduceLT, Int.reduceLE, Int.reduceNeg, Nat.reduceLeDiff, if_true, if_false, ↓reduceIte, forall_const, implies_true, reduceCtorEq, forall_eq_or_imp, forall_eq, ne_eq, hlt]
      exact congrArg (Chunk.row _ _) (markR_end _ _ _ _ rfl)
/-! ### equality -/
theorem l_eqIntS (a b : List Int) (ha : a.length ≤ 1099511627776) (hb : b.length ≤ 1099511627776) : Gives Go.Proofs.Tryz.prog 101 [.rd 1 (a.map intRow), .rd 1 (b.map intRow)] (.bool (a == b)) := by
  refine gives_of_V mixed Go.Proofs.Tryz.call101 Go.Proofs.Tryz.func101 rfl (by rw [Go.Proofs.Tryz.ntmps101]; simp) ?_
  simp (maxSteps := 2000000) only [↓ctl, evl, val, valP, own, app, wrt, tys, Tryz.ntmps101, Tryz.results101, ↓V_convert, ↓V_bytes, stdl, cond_true, cond_false, Nat.reduceEqDiff, Nat.reduceAdd, Nat.reduceMul, Nat.reduceSub, Nat.reduceLT, Int.reduceEq, Int.reduceLT, Int.reduceLE, Int.reduceNeg, Nat.reduceLeDiff, if_true, if_false, ↓reduceIte, forall_const, implies_true, reduceCtorEq, forall_eq_or_imp, forall_eq, ne_eq]
  refine ⟨fun h => ?_, fun h => ?_⟩
  · have : a.length ≠ b.length := by omega
    symm; simp only [beq_eq_false_iff_ne]; intro e; exact this (by rw [e])
  have hl : a.length = b.length := by omega
  refine V_loopI mixed (ι := {i : Nat // i ≤ a.length ∧ (a == b) = (a.drop i == b.drop i)}) (fun i => ⟨[(0, true, .rd 1 (a.map intRow)), (1, true, .rd 1 (b.map intRow)), (5, true, I i.1)], [], 0, 26⟩) (fun i => a.length - i.1)  ⟨0, by simp⟩ ?_ ?_ ?_
  · refine weakI ?_
    simp (maxSteps := 2000000) only [↓ctl, evl, val, valP, own, app, wrt, tys, Tryz.ntmps101, Tryz.results101, ↓V_convert, ↓V_bytes, stdl, cond_true, cond_false, Nat.reduceEqDiff, Nat.reduceAdd, Nat.reduceMul, Nat.reduceSub, Nat.reduceLT, Int.reduceEq, Int.reduceLT, Int.reduceLE, Int.reduceNeg, Nat.reduceLeDiff, if_true, if_false, ↓reduceIte, forall_const, implies_true, reduceCtorEq, forall_eq_or_imp, forall_eq, ne_eq]
    rfl
  · trivial
  · rintro ⟨i, hi, hx⟩
    by_cases hge : a.length ≤ i
    · have hlt : ¬ i < a.length := by omega
      simp (maxSteps := 2000000) only [↓ctl, evl, val, valP, own, app, wrt, tys, Tryz.ntmps101, Tryz.results101, ↓V_convert, ↓V_bytes, stdl, cond_true, cond_false, Nat.reduceEqDiff, Nat.reduceAdd, Nat.reduceMul, Nat.reduceSub, Nat.reduceLT, Int.reduceEq, Int.reduceLT, Int.reduceLE, Int.reduceNeg, Nat.reduceLeDiff, if_true, if_false, ↓reduceIte, forall_const, implies_true, reduceCtorEq, forall_eq_or_imp, forall_eq, ne_eq, hlt]
      rw [hx, drop_end _ _ hlt, drop_end _ _ (by omega)]; rfl
    have hlt : i < a.length := by omega
    simp (maxSteps := 2000000) only [↓ctl, evl, val, valP, own, app, wrt, tys, Tryz.ntmps101, Tryz.results101, ↓V_convert, ↓V_bytes, stdl, cond_true, cond_false, Nat.reduceEqDiff, Nat.reduceAdd, Nat.reduceMul, Nat.reduceSub, Nat.reduceLT, Int.reduceEq, Int.reduceLT, Int.reduceLE, Int.reduceNeg, Nat.reduceLeDiff, if_true, if_false, ↓reduceIte, forall_const, implies_true, reduceCtorEq, forall_eq_or_imp, forall_eq, ne_eq, ← hl, hlt]
    refine ⟨by kernel_rfl, fun h0 => ?_, fun h0 => V_backI ⟨i + 1, by omega, ?_⟩ (by show _ - (i + 1) < _; omega) (weakI ?_)⟩
    · rw [hx, eq_drop default hl hlt]; grind
    · rw [hx, eq_drop default hl hlt]; grind
    · simp (maxSteps := 2000000) only [↓ctl, evl, val, valP, own, app, wrt, tys, Tryz.ntmps101, Tryz.results101, ↓V_convert, ↓V_bytes, stdl, cond_true, cond_false, Nat.reduceEqDiff, Nat.reduceAdd, Nat.reduceMul, Nat.reduceSub, Nat.reduceLT, Int.reduceEq, Int.reduceLT, Int.reduceLE, Int.reduceNeg, Nat.reduceLeDiff, if_true, if_false, ↓reduceIte, forall_const, implies_true, reduceCtorEq, forall_eq_or_imp, forall_eq, ne_eq]
      rw [wrap_id (by omega) (by omega)]
      rfl
theorem l_eqStringS (a b : List (List UInt8)) (ha : a.length ≤ 1099511627776) (hb : b.length ≤ 1099511627776) : Gives Go.Proofs.Tryz.prog 28 [.rd 1 (a.map strRow), .rd 1 (b.map strRow)] (.bool (a == b)) := by
  refine gives_of_V mixed Go.Proofs.Tryz.call28 Go.Proofs.Tryz.func28 rfl (by rw [Go.Proofs.Tryz.ntmps28]; simp) ?_
  simp (maxSteps := 2000000) only [↓ctl, evl, val, valP, own, app, wrt, tys, Tryz.ntmps28, Tryz.results28, ↓V_convert, ↓V_bytes, stdl, cond_true, cond_false, Nat.reduceEqDiff, Nat.reduceAdd, Nat.reduceMul, Nat.reduceSub, Nat.reduceLT, Int.reduceEq, Int.reduceLT, Int.reduceLE, Int.reduceNeg, Nat.reduceLeDiff, if_true, if_false, ↓reduceIte, forall_const, implies_true, reduceCtorEq, forall_eq_or_imp, forall_eq, ne_eq]
  refine ⟨fun h => ?_, fun h => ?_⟩
  · have : a.length ≠ b.length := by omega
    symm; simp only [beq_eq_false_iff_ne]; intro e; exact this (by rw [e])
  have hl : a.length = b.length := by omega
  refine V_loopI mixed (ι := {i : Nat // i ≤ a.length ∧ (a == b) = (a.drop i == b.drop i)}) (fun i => ⟨[(0, true, .rd 1 (a.map strRow)), (1, true, .rd 1 (b.map strRow)), (5, true, I i.1)], [], 0, 26⟩) (fun i => a.length - i.1)  ⟨0, by simp⟩ ?_ ?_ ?_
  · refine weakI ?_
    simp (maxSteps := 2000000) only [↓ctl, evl, val, valP, own, app, wrt, tys, Tryz.ntmps28, Tryz.results28, ↓V_convert, ↓V_bytes, stdl, cond_true, cond_false, Nat.reduceEqDiff, Nat.reduceAdd, Nat.reduceMul, Nat.reduceSub, Nat.reduceLT, Int.reduceEq, Int.reduceLT, Int.reduceLE, Int.reduceNeg, Nat.reduceLeDiff, if_true, if_false, ↓reduceIte, forall_const, implies_true, reduceCtorEq, forall_eq_or_imp, forall_eq, ne_eq]
    rfl
  · trivial
  · rintro ⟨i, hi, hx⟩
    by_cases hge : a.length ≤ i
    · have hlt : ¬ i < a.length := by omega
      simp (maxSteps := 2000000) only [↓ctl, evl, val, valP, own, app, wrt, tys, Tryz.ntmps28, Tryz.results28, ↓V_convert, ↓V_bytes, stdl, cond_true, cond_false, Nat.reduceEqDiff, Nat.reduceAdd, Nat.reduceMul, Nat.reduceSub, Nat.reduceLT, Int.reduceEq, Int.reduceLT, Int.reduceLE, Int.reduceNeg, Nat.reduceLeDiff, if_true, if_false, ↓reduceIte, forall_const, implies_true, reduceCtorEq, forall_eq_or_imp, forall_eq, ne_eq, hlt]
      rw [hx, drop_end _ _ hlt, drop_end _ _ (by omega)]; rfl
    have hlt : i < a.length := by omega
    simp (maxSteps := 2000000) only [↓ctl, evl, val, valP, own, app, wrt, tys, Tryz.ntmps28, Tryz.results28, ↓V_convert, ↓V_bytes, stdl, cond_true, cond_false, Nat.reduceEqDiff, Nat.reduceAdd, Nat.reduceMul, Nat.reduceSub, Nat.reduceLT, Int.reduceEq, Int.reduceLT, Int.reduceLE, Int.reduceNeg, Nat.reduceLeDiff, if_true, if_false, ↓reduceIte, forall_const, implies_true, reduceCtorEq, forall_eq_or_imp, forall_eq, ne_eq, ← hl, hlt]
    refine ⟨by kernel_rfl, fun h0 => ?_, fun h0 => V_backI ⟨i + 1, by omega, ?_⟩ (by show _ - (i + 1) < _; omega) (weakI ?_)⟩
    · rw [hx, eq_drop default hl hlt]; grind
    · rw [hx, eq_drop default hl hlt]; grind
    · simp (maxSteps := 2000000) only [↓ctl, evl, val, valP, own, app, wrt, tys, Tryz.ntmps28, Tryz.results28, ↓V_convert, ↓V_bytes, stdl, cond_true, cond_false, Nat.reduceEqDiff, Nat.reduceAdd, Nat.reduceMul, Nat.reduceSub, Nat.reduceLT, Int.reduceEq, Int.reduceLT, Int.reduceLE, Int.reduceNeg, Nat.reduceLeDiff, if_true, if_false, ↓reduceIte, forall_const, implies_true, reduceCtorEq, forall_eq_or_imp, forall_eq, ne_eq]
      rw [wrap_id (by omega) (by omega)]
      rfl
theorem l_eqQuota (a b : Quota) : Gives Go.Proofs.Tryz.prog 66 [quotaAV a, quotaAV b] (.bool (a == b)) := by
  refine gives_of_V mixed Go.Proofs.Tryz.call66 Go.Proofs.Tryz.func66 rfl (by rw [Go.Proofs.Tryz.ntmps66]; simp) ?_
  simp (maxSteps := 2000000) only [↓ctl, evl, val, valP, own, app, wrt, tys, Tryz.ntmps66, Tryz.results66, ↓V_convert, ↓V_bytes, stdl, cond_true, cond_false, Nat.reduceEqDiff, Nat.reduceAdd, Nat.reduceMul, Nat.reduceSub, Nat.reduceLT, Int.reduceEq, Int.reduceLT, Int.reduceLE, Int.reduceNeg, Nat.reduceLeDiff, if_true, if_false, ↓reduceIte, forall_const, implies_true, reduceCtorEq, forall_eq_or_imp, forall_eq, ne_eq, quotaAV]
  rw [quota_beq]
  refine ⟨fun h => by simp [h], fun h => ⟨fun h2 => by simp [h2], fun h2 => by simp [h, h2]⟩⟩
theorem l_eqAclEntry (a b : Acl) : Gives Go.Proofs.Tryz.prog 120 [aclAV a, aclAV b] (.bool (a == b)) := by
  refine gives_of_V mixed Go.Proofs.Tryz.call120 Go.Proofs.Tryz.func120 rfl (by rw [Go.Proofs.Tryz.ntmps120]; simp) ?_
  simp (maxSteps := 2000000) only [↓ctl, evl, val, valP, own, app, wrt, tys, Tryz.ntmps120, Tryz.results120, ↓V_convert, ↓V_bytes, stdl, cond_true, cond_false, Nat.reduceEqDiff, Nat.reduceAdd, Nat.reduceMul, Nat.reduceSub, Nat.reduceLT, Int.reduceEq, Int.reduceLT, Int.reduceLE, Int.reduceNeg, Nat.reduceLeDiff, if_true, if_false, ↓reduceIte, forall_const, implies_true, reduceCtorEq, forall_eq_or_imp, forall_eq, ne_eq, aclAV]
  rw [acl_beq]
  refine ⟨fun h => by simp [h], fun h => ⟨fun h2 => by simp [h2], fun h2 => ⟨fun h3 => by simp [h3], fun h3 => by simp [h, h2, h3]⟩⟩⟩
theorem l_eqQuotaS (a b : List Quota) (ha : a.length ≤ 1099511627776) (hb : b.length ≤ 1099511627776) : Gives Go.Proofs.Tryz.prog 30 [.rd 2 (a.map quotaRow), .rd 2 (b.map quotaRow)] (.bool (a == b)) := by
  refine gives_of_V mixed Go.Proofs.Tryz.call30 Go.Proofs.Tryz.func30 rfl (by rw [Go.Proofs.Tryz.ntmps30]; simp) ?_
  simp (maxSteps := 2000000) only [↓ctl, evl, val, valP, own, app, wrt, tys, Tryz.ntmps30, Tryz.results30, ↓V_convert, ↓V_bytes, stdl, cond_true, cond_false, Nat.reduceEqDiff, Nat.reduceAdd, Nat.reduceMul, Nat.reduceSub, Nat.reduceLT, Int.reduceEq, Int.reduceLT, Int.reduceLE, Int.reduceNeg, Nat.reduceLeDiff, if_true, if_false, ↓reduceIte, forall_const, implies_true, reduceCtorEq, forall_eq_or_imp, forall_eq, ne_eq]
  refine ⟨fun h => ?_, fun h => ?_⟩
  · have : a.length ≠ b.length := by omega
    symm; simp only [beq_eq_false_iff_ne]; intro e; exact this (by rw [e])
  have hl : a.length = b.length := by omega
  refine V_loopI mixed (ι := {i : Nat // i ≤ a.length ∧ (a == b) = (a.drop i == b.drop i)}) (fun i => ⟨[(0, true, .rd 2 (a.map quotaRow)), (1, true, .rd 2 (b.map quotaRow)), (5, true, I i.1)], [], 0, 27⟩) (fun i => a.length - i.1)  ⟨0, by simp⟩ ?_ ?_ ?_
  · refine weakI ?_
    simp (maxSteps := 2000000) only [↓ctl, evl, val, valP, own, app, wrt, tys, Tryz.ntmps30, Tryz.results30, ↓V_convert, ↓V_bytes, stdl, cond_true, cond_false, Nat.reduceEqDiff, Nat.reduceAdd, Nat.reduceMul, Nat.reduceSub, Nat.reduceLT, Int.reduceEq, Int.reduceLT, Int.reduceLE, Int.reduceNeg, Nat.reduceLeDiff, if_true, if_false, ↓reduceIte, forall_const, implies_true, reduceCtorEq, forall_eq_or_imp, forall_eq, ne_eq]
    rfl
  · trivial
  · rintro ⟨i, hi, hx⟩
    by_cases hge : a.length ≤ i
    · have hlt : ¬ i < a.length := by omega
      simp (maxSteps := 2000000) only [↓ctl, evl, val, valP, own, app, wrt, tys, Tryz.ntmps30, Tryz.results30, ↓V_convert, ↓V_bytes, stdl, cond_true, cond_false, Nat.reduceEqDiff, Nat.reduceAdd, Nat.reduceMul, Nat.reduceSub, Nat.reduceLT, Int.reduceEq, Int.reduceLT, Int.reduceLE, Int.reduceNeg, Nat.reduceLeDiff, if_true, if_false, ↓reduceIte, forall_const, implies_true, reduceCtorEq, forall_eq_or_imp, forall_eq, ne_eq, hlt]
      rw [hx, drop_end _ _ hlt, drop_end _ _ (by omega)]; rfl
    have hlt : i < a.length := by omega
    simp (maxSteps := 2000000) only [↓ctl, evl, val, valP, own, app, wrt, tys, Tryz.ntmps30, Tryz.results30, ↓V_convert, ↓V_bytes, stdl, cond_true, cond_false, Nat.reduceEqDiff, Nat.reduceAdd, Nat.reduceMul, Nat.reduceSub, Nat.reduceLT, Int.reduceEq, Int.reduceLT, Int.reduceLE, Int.reduceNeg, Nat.reduceLeDiff, if_true, if_false, ↓reduceIte, forall_const, implies_true, reduceCtorEq, forall_eq_or_imp, forall_eq, ne_eq, ← hl, hlt, quotaRow_e]
    refine ⟨by kernel_rfl, ?_⟩
    refine V_callF mixed (cap := []) (fun _ => l_eqQuota (a.getD i default) (b.getD i default)) (by simp (maxSteps := 2000000) (contextual := true) only [↓ctl, evl, val, valP, own, app, wrt, tys, Tryz.ntmps30, Tryz.results30, ↓V_convert, ↓V_bytes, stdl, cond_true, cond_false, Nat.reduceEqDiff, Nat.reduceAdd, Nat.reduceMul, Nat.reduceSub, Nat.reduceLT, Int.reduceEq, Int.reduceLT, Int.reduceLE, Int.reduceNeg, Nat.reduceLeDiff, if_true, if_false, ↓reduceIte, forall_const, implies_true, reduceCtorEq, forall_eq_or_imp, forall_eq, ne_eq, quotaAV]) (by simp (maxSteps := 2000000) (contextual := true) only [↓ctl, evl, val, valP, own, app, wrt, tys, Tryz.ntmps30, Tryz.results30, ↓V_convert, ↓V_bytes, stdl, cond_true, cond_false, Nat.reduceEqDiff, Nat.reduceAdd, Nat.reduceMul, Nat.reduceSub, Nat.reduceLT, Int.reduceEq, Int.reduceLT, Int.reduceLE, Int.reduceNeg, Nat.reduceLeDiff, if_true, if_false, ↓reduceIte, forall_const, implies_true, reduceCtorEq, forall_eq_or_imp, forall_eq, ne_eq]) (by simp (maxSteps := 2000000) (contextual := true) only [↓ctl, evl, val, valP, own, app, wrt, tys, Tryz.ntmps30, Tryz.results30, ↓V_convert, ↓V_bytes, stdl, cond_true, cond_false, Nat.reduceEqDiff, Nat.reduceAdd, Nat.reduceMul, Nat.reduceSub, Nat.reduceLT, Int.reduceEq, Int.reduceLT, Int.reduceLE, Int.reduceNeg, Nat.reduceLeDiff, if_true, if_false, ↓reduceIte, forall_const, implies_true, reduceCtorEq, forall_eq_or_imp, forall_eq, ne_eq]) trivial ?_
    simp (maxSteps := 2000000) only [↓ctl, evl, val, valP, own, app, wrt, tys, Tryz.ntmps30, Tryz.results30, ↓V_convert, ↓V_bytes, stdl, cond_true, cond_false, Nat.reduceEqDiff, Nat.reduceAdd, Nat.reduceMul, Nat.reduceSub, Nat.reduceLT, Int.reduceEq, Int.reduceLT, Int.reduceLE, Int.reduceNeg, Nat.reduceLeDiff, if_true, if_false, ↓reduceIte, forall_const, implies_true, reduceCtorEq, forall_eq_or_imp, forall_eq, ne_eq, ← hl, hlt]
    refine ⟨fun h0 => ?_, fun h0 => V_backI ⟨i + 1, by omega, ?_⟩ (by show _ - (i + 1) < _; omega) (weakI ?_)⟩
    · rw [hx, eq_drop default hl hlt]; grind
    · rw [hx, eq_drop default hl hlt]; grind
    · simp (maxSteps := 2000000) only [↓ctl, evl, val, valP, own, app, wrt, tys, Tryz.ntmps30, Tryz.results30, ↓V_convert, ↓V_bytes, stdl, cond_true, cond_false, Nat.reduceEqDiff, Nat.reduceAdd, Nat.reduceMul, Nat.reduceSub, Nat.reduceLT, Int.reduceEq, Int.reduceLT, Int.reduceLE, Int.reduceNeg, Nat.reduceLeDiff, if_true, if_false, ↓reduceIte, forall_const, implies_true, reduceCtorEq, forall_eq_or_imp, forall_eq, ne_eq]
      rw [wrap_id (by omega) (by omega)]
      rfl
theorem l_eqAclEntryS (a b : List Acl) (ha : a.length ≤ 1099511627776) (hb : b.length ≤ 1099511627776) : Gives Go.Proofs.Tryz.prog 102 [.rd 3 (a.map aclRow), .rd 3 (b.map aclRow)] (.bool (a == b)) := by
  refine gives_of_V mixed Go.Proofs.Tryz.call102 Go.Proofs.Tryz.func102 rfl (by rw [Go.Proofs.Tryz.ntmps102]; simp) ?_
  simp (maxSteps := 2000000) only [↓ctl, evl, val, valP, own, app, wrt, tys, Tryz.ntmps102, Tryz.results102, ↓V_convert, ↓V_bytes, stdl, cond_true, cond_false, Nat.reduceEqDiff, Nat.reduceAdd, Nat.reduceMul, Nat.reduceSub, Nat.reduceLT, Int.reduceEq, Int.reduceLT, Int.reduceLE, Int.reduceNeg, Nat.reduceLeDiff, if_true, if_false, ↓reduceIte, forall_const, implies_true, reduceCtorEq, forall_eq_or_imp, forall_eq, ne_eq]
  refine ⟨fun h => ?_, fun h => ?_⟩
  · have : a.length ≠ b.length := by omega
    symm; simp only [beq_eq_false_iff_ne]; intro e; exact this (by rw [e])
  have hl : a.length = b.length := by omega
  refine V_loopI mixed (ι := {i : Nat // i ≤ a.length ∧ (a == b) = (a.drop i == b.drop i)}) (fun i => ⟨[(0, true, .rd 3 (a.map aclRow)), (1, true, .rd 3 (b.map aclRow)), (5, true, I i.1)], [], 0, 27⟩) (fun i => a.length - i.1)  ⟨0, by simp⟩ ?_ ?_ ?_
  · refine weakI ?_
    simp (maxSteps := 2000000) only [↓ctl, evl, val, valP, own, app, wrt, tys, Tryz.ntmps102, Tryz.results102, ↓V_convert, ↓V_bytes, stdl, cond_true, cond_false, Nat.reduceEqDiff, Nat.reduceAdd, Nat.reduceMul, Nat.reduceSub, Nat.reduceLT, Int.reduceEq, Int.reduceLT, Int.reduceLE, Int.reduceNeg, Nat.reduceLeDiff, if_true, if_false, ↓reduceIte, forall_const, implies_true, reduceCtorEq, forall_eq_or_imp, forall_eq, ne_eq]
    rfl
  · trivial
  · rintro ⟨i, hi, hx⟩
    by_cases hge : a.length ≤ i
    · have hlt : ¬ i < a.length := by omega
      simp (maxSteps := 2000000) only [↓ctl, evl, val, valP, own, app, wrt, tys, Tryz.ntmps102, Tryz.results102, ↓V_convert, ↓V_bytes, stdl, cond_true, cond_false, Nat.reduceEqDiff, Nat.reduceAdd, Nat.reduceMul, Nat.reduceSub, Nat.reduceLT, Int.reduceEq, Int.reduceLT, Int.reduceLE, Int.reduceNeg, Nat.reduceLeDiff, if_true, if_false, ↓reduceIte, forall_const, implies_true, reduceCtorEq, forall_eq_or_imp, forall_eq, ne_eq, hlt]
      rw [hx, drop_end _ _ hlt, drop_end _ _ (by omega)]; rfl
    have hlt : i < a.length := by omega
    simp (maxSteps := 2000000) only [↓ctl, evl, val, valP, own, app, wrt, tys, Tryz.ntmps102, Tryz.results102, ↓V_convert, ↓V_bytes, stdl, cond_true, cond_false, Nat.reduceEqDiff, Nat.reduceAdd, Nat.reduceMul, Nat.reduceSub, Nat.reduceLT, Int.reduceEq, Int.reduceLT, Int.reduceLE, Int.reduceNeg, Nat.reduceLeDiff, if_true, if_false, ↓reduceIte, forall_const, implies_true, reduceCtorEq, forall_eq_or_imp, forall_eq, ne_eq, ← hl, hlt, aclRow_e]
    refine ⟨by kernel_rfl, ?_⟩
    refine V_callF mixed (cap := []) (fun _ => l_eqAclEntry (a.getD i default) (b.getD i default)) (by simp (maxSteps := 2000000) (contextual := true) only [↓ctl, evl, val, valP, own, app, wrt, tys, Tryz.ntmps102, Tryz.results102, ↓V_convert, ↓V_bytes, stdl, cond_true, cond_false, Nat.reduceEqDiff, Nat.reduceAdd, Nat.reduceMul, Nat.reduceSub, Nat.reduceLT, Int.reduceEq, Int.reduceLT, Int.reduceLE, Int.reduceNeg, Nat.reduceLeDiff, if_true, if_false, ↓reduceIte, forall_const, implies_true, reduceCtorEq, forall_eq_or_imp, forall_eq, ne_eq, aclAV]) (by simp (maxSteps := 2000000) (contextual := true) only [↓ctl, evl, val, valP, own, app, wrt, tys, Tryz.ntmps102, Tryz.results102, ↓V_convert, ↓V_bytes, stdl, cond_true, cond_false, Nat.reduceEqDiff, Nat.reduceAdd, Nat.reduceMul, Nat.reduceSub, Nat.reduceLT, Int.reduceEq, Int.reduceLT, Int.reduceLE, Int.reduceNeg, Nat.reduceLeDiff, if_true, if_false, ↓reduceIte, forall_const, implies_true, reduceCtorEq, forall_eq_or_imp, forall_eq, ne_eq]) (by simp (maxSteps := 2000000) (contextual := true) only [↓ctl, evl, val, valP, own, app, wrt, tys, Tryz.ntmps102, Tryz.results102, ↓V_convert, ↓V_bytes, stdl, cond_true, cond_false, Nat.reduceEqDiff, Nat.reduceAdd, Nat.reduceMul, Nat.reduceSub, Nat.reduceLT, Int.reduceEq, Int.reduceLT, Int.reduceLE, Int.reduceNeg, Nat.reduceLeDiff, if_true, if_false, ↓reduceIte, forall_const, implies_true, reduceCtorEq, forall_eq_or_imp, forall_eq, ne_eq]) trivial ?_
    simp (maxSteps := 2000000) only [↓ctl, evl, val, valP, own, app, wrt, tys, Tryz.ntmps102, Tryz.results102, ↓V_convert, ↓V_bytes, stdl, cond_true, cond_false, Nat.reduceEqDiff, Nat.reduceAdd, Nat.reduceMul, Nat.reduceSub, Nat.reduceLT, Int.reduceEq, Int.reduceLT, Int.reduceLE, Int.reduceNeg, Nat.reduceLeDiff, if_true, if_false, ↓reduceIte, forall_const, implies_true, reduceCtorEq, forall_eq_or_imp, forall_eq, ne_eq, ← hl, hlt]
    refine ⟨fun h0 => ?_, fun h0 => V_backI ⟨i + 1, by omega, ?_⟩ (by show _ - (i + 1) < _; omega) (weakI ?_)⟩
    · rw [hx, eq_drop default hl hlt]; grind
    · rw [hx, eq_drop default hl hlt]; grind
    · simp (maxSteps := 2000000) only [↓ctl, evl, val, valP, own, app, wrt, tys, Tryz.ntmps102, Tryz.results102, ↓V_convert, ↓V_bytes, stdl, cond_true, cond_false, Nat.reduceEqDiff, Nat.reduceAdd, Nat.reduceMul, Nat.reduceSub, Nat.reduceLT, Int.reduceEq, Int.reduceLT, Int.reduceLE, Int.reduceNeg, Nat.reduceLeDiff, if_true, if_false, ↓reduceIte, forall_const, implies_true, reduceCtorEq, forall_eq_or_imp, forall_eq, ne_eq]
      rw [wrap_id (by omega) (by omega)]
      rfl
/-! ### what is held -/
theorem l_heldStringS (k n : Nat) (h0 : 0 < k) (h1 : k + n ≤ 1099511627776) : Gives Go.Proofs.Tryz.prog 36 [.rd 1 ((marks (mkS k) n).map strRow), I k] (.int .i64 (k + n : Nat)) := by
  refine gives_of_V mixed Go.Proofs.Tryz.call36 Go.Proofs.Tryz.func36 rfl (by rw [Go.Proofs.Tryz.ntmps36]; simp) ?_
  have hl := marks_length (mkS k) n
  simp (maxSteps := 2000000) only [↓ctl, evl, val, valP, own, app, wrt, tys, Tryz.ntmps36, Tryz.results36, ↓V_convert, ↓V_bytes, stdl, cond_true, cond_false, Nat.reduceEqDiff, Nat.reduceAdd, Nat.reduceMul, Nat.reduceSub, Nat.reduceLT, Int.reduceEq, Int.reduceLT, Int.reduceLE, Int.reduceNeg, Nat.reduceLeDiff, if_true, if_false, ↓reduceIte, forall_const, implies_true, reduceCtorEq, forall_eq_or_imp, forall_eq, ne_eq]
  refine V_loopI mixed (ι := {i : Nat // i ≤ n}) (fun i => ⟨[(0, true, .rd 1 ((marks (mkS k) n).map strRow)), (1, true, I (k + i.1 : Nat)), (5, true, I i.1)], [], 0, 22⟩) (fun i => n - i.1)  ⟨0, by omega⟩ ?_ ?_ ?_
  · refine weakI ?_
    simp (maxSteps := 2000000) only [↓ctl, evl, val, valP, own, app, wrt, tys, Tryz.ntmps36, Tryz.results36, ↓V_convert, ↓V_bytes, stdl, cond_true, cond_false, Nat.reduceEqDiff, Nat.reduceAdd, Nat.reduceMul, Nat.reduceSub, Nat.reduceLT, Int.reduceEq, Int.reduceLT, Int.reduceLE, Int.reduceNeg, Nat.reduceLeDiff, if_true, if_false, ↓reduceIte, forall_const, implies_true, reduceCtorEq, forall_eq_or_imp, forall_eq, ne_eq]
    exact ⟨rfl, rfl⟩
  · trivial
  · rintro ⟨i, hi⟩
    by_cases hlt : i < n
    · have g := marks_getD default (mkS k) n i hlt
      have g' : mkS k i = markT (k + i) := rfl
      simp (maxSteps := 2000000) only [↓ctl, evl, val, valP, own, app, wrt, tys, Tryz.ntmps36, Tryz.results36, ↓V_convert, ↓V_bytes, stdl, cond_true, cond_false, Nat.reduceEqDiff, Nat.reduceAdd, Nat.reduceMul, Nat.reduceSub, Nat.reduceLT, Int.reduceEq, Int.reduceLT, Int.reduceLE, Int.reduceNeg, Nat.reduceLeDiff, if_true, if_false, ↓reduceIte, forall_const, implies_true, reduceCtorEq, forall_eq_or_imp, forall_eq, ne_eq, hl, hlt, g]
      refine ⟨by kernel_rfl, ?_⟩
      refine V_callF mixed (cap := []) (fun _ => l_markText (k + i) (by omega) (by omega)) (by simp (maxSteps := 2000000) (contextual := true) only [↓ctl, evl, val, valP, own, app, wrt, tys, Tryz.ntmps36, Tryz.results36, ↓V_convert, ↓V_bytes, stdl, cond_true, cond_false, Nat.reduceEqDiff, Nat.reduceAdd, Nat.reduceMul, Nat.reduceSub, Nat.reduceLT, Int.reduceEq, Int.reduceLT, Int.reduceLE, Int.reduceNeg, Nat.reduceLeDiff, if_true, if_false, ↓reduceIte, forall_const, implies_true, reduceCtorEq, forall_eq_or_imp, forall_eq, ne_eq]) (by simp (maxSteps := 2000000) (contextual := true) only [↓ctl, evl, val, valP, own, app, wrt, tys, Tryz.ntmps36, Tryz.results36, ↓V_convert, ↓V_bytes, stdl, cond_true, cond_false, Nat.reduceEqDiff, Nat.reduceAdd, Nat.reduceMul, Nat.reduceSub, Nat.reduceLT, Int.reduceEq, Int.reduceLT, Int.reduceLE, Int.reduceNeg, Nat.reduceLeDiff, if_true, if_false, ↓reduceIte, forall_const, implies_true, reduceCtorEq, forall_eq_or_imp, forall_eq, ne_eq]) (by simp (maxSteps := 2000000) (contextual := true) only [↓ctl, evl, val, valP, own, app, wrt, tys, Tryz.ntmps36, Tryz.results36, ↓V_convert, ↓V_bytes, stdl, cond_true, cond_false, Nat.reduceEqDiff, Nat.reduceAdd, Nat.reduceMul, Nat.reduceSub, Nat.reduceLT, Int.reduceEq, Int.reduceLT, Int.reduceLE, Int.reduceNeg, Nat.reduceLeDiff, if_true, if_false, ↓reduceIte, forall_const, implies_true, reduceCtorEq, forall_eq_or_imp, forall_eq, ne_eq]) trivial ?_
      simp (maxSteps := 2000000) only [↓ctl, evl, val, valP, own, app, wrt, tys, Tryz.ntmps36, Tryz.results36, ↓V_convert, ↓V_bytes, stdl, cond_true, cond_false, Nat.reduceEqDiff, Nat.reduceAdd, Nat.reduceMul, Nat.reduceSub, Nat.reduceLT, Int.reduceEq, Int.reduceLT, Int.reduceLE, Int.reduceNeg, Nat.reduceLeDiff, if_true, if_false, ↓reduceIte, forall_const, implies_true, reduceCtorEq, forall_eq_or_imp, forall_eq, ne_eq, hl, hlt, g, g']
      refine V_backI ⟨i + 1, by omega⟩ (by show _ - (i + 1) < _; omega) (weakI ?_)
      simp (maxSteps := 2000000) only [↓ctl, evl, val, valP, own, app, wrt, tys, Tryz.ntmps36, Tryz.results36, ↓V_convert, ↓V_bytes, stdl, cond_true, cond_false, Nat.reduceEqDiff, Nat.reduceAdd, Nat.reduceMul, Nat.reduceSub, Nat.reduceLT, Int.reduceEq, Int.reduceLT, Int.reduceLE, Int.reduceNeg, Nat.reduceLeDiff, if_true, if_false, ↓reduceIte, forall_const, implies_true, reduceCtorEq, forall_eq_or_imp, forall_eq, ne_eq]
      rw [wrap_id (by omega) (by omega), wrap_id (by omega) (by omega)]
      exact ⟨by omega, rfl⟩
    · have : i = n := by omega
      subst this
      simp (maxSteps := 2000000) only [↓ctl, evl, val, valP, own, app, wrt, tys, Tryz.ntmps36, Tryz.results36, ↓V_convert, ↓V_bytes, stdl, cond_true, cond_false, Nat.reduceEqDiff, Nat.reduceAdd, Nat.reduceMul, Nat.reduceSub, Nat.reduceLT, Int.reduceEq, Int.reduceLT, Int.reduceLE, Int.reduceNeg, Nat.reduceLeDiff, if_true, if_false, ↓reduceIte, forall_const, implies_true, reduceCtorEq, forall_eq_or_imp, forall_eq, ne_eq, hl, hlt]
theorem l_heldIntS (k n : Nat) (h1 : k + n ≤ 1099511627776) : Gives Go.Proofs.Tryz.prog 79 [.rd 1 ((marks (mkI k) n).map intRow), I k] (.int .i64 (k + n : Nat)) := by
  refine gives_of_V mixed Go.Proofs.Tryz.call79 Go.Proofs.Tryz.func79 rfl (by rw [Go.Proofs.Tryz.ntmps79]; simp) ?_
  have hl := marks_length (mkI k) n
  simp (maxSteps := 2000000) only [↓ctl, evl, val, valP, own, app, wrt, tys, Tryz.ntmps79, Tryz.results79, ↓V_convert, ↓V_bytes, stdl, cond_true, cond_false, Nat.reduceEqDiff, Nat.reduceAdd, Nat.reduceMul, Nat.reduceSub, Nat.reduceLT, Int.reduceEq, Int.reduceLT, Int.reduceLE, Int.reduceNeg, Nat.reduceLeDiff, if_true, if_false, ↓reduceIte, forall_const, implies_true, reduceCtorEq, forall_eq_or_imp, forall_eq, ne_eq]
  refine V_loopI mixed (ι := {i : Nat // i ≤ n}) (fun i => ⟨[(0, true, .rd 1 ((marks (mkI k) n).map intRow)), (1, true, I (k + i.1 : Nat)), (5, true, I i.1)], [], 0, 21⟩) (fun i => n - i.1)  ⟨0, by omega⟩ ?_ ?_ ?_
  · refine weakI ?_
    simp (maxSteps := 2000000) only [↓ctl, evl, val, valP, own, app, wrt, tys, Tryz.ntmps79, Tryz.results79, ↓V_convert, ↓V_bytes, stdl, cond_true, cond_false, Nat.reduceEqDiff, Nat.reduceAdd, Nat.reduceMul, Nat.reduceSub, Nat.reduceLT, Int.reduceEq, Int.reduceLT, Int.reduceLE, Int.reduceNeg, Nat.reduceLeDiff, if_true, if_false, ↓reduceIte, forall_const, implies_true, reduceCtorEq, forall_eq_or_imp, forall_eq, ne_eq]
    exact ⟨rfl, rfl⟩
  · trivial
  · rintro ⟨i, hi⟩
    by_cases hlt : i < n
    · have g := marks_getD default (mkI k) n i hlt
      have g' : mkI k i = ((k + i : Nat) : Int) := rfl
      simp (maxSteps := 2000000) only [↓ctl, evl, val, valP, own, app, wrt, tys, Tryz.ntmps79, Tryz.results79, ↓V_convert, ↓V_bytes, stdl, cond_true, cond_false, Nat.reduceEqDiff, Nat.reduceAdd, Nat.reduceMul, Nat.reduceSub, Nat.reduceLT, Int.reduceEq, Int.reduceLT, Int.reduceLE, Int.reduceNeg, Nat.reduceLeDiff, if_true, if_false, ↓reduceIte, forall_const, implies_true, reduceCtorEq, forall_eq_or_imp, forall_eq, ne_eq, hl, hlt, g, g']
      try refine ⟨by kernel_rfl, ?_⟩
      refine V_backI ⟨i + 1, by omega⟩ (by show _ - (i + 1) < _; omega) (weakI ?_)
      simp (maxSteps := 2000000) only [↓ctl, evl, val, valP, own, app, wrt, tys, Tryz.ntmps79, Tryz.results79, ↓V_convert, ↓V_bytes, stdl, cond_true, cond_false, Nat.reduceEqDiff, Nat.reduceAdd, Nat.reduceMul, Nat.reduceSub, Nat.reduceLT, Int.reduceEq, Int.reduceLT, Int.reduceLE, Int.reduceNeg, Nat.reduceLeDiff, if_true, if_false, ↓reduceIte, forall_const, implies_true, reduceCtorEq, forall_eq_or_imp, forall_eq, ne_eq]
      rw [wrap_id (by omega) (by omega), wrap_id (by omega) (by omega)]
      exact ⟨by omega, rfl⟩
    · have : i = n := by omega
      subst this
      simp (maxSteps := 2000000) only [↓ctl, evl, val, valP, own, app, wrt, tys, Tryz.ntmps79, Tryz.results79, ↓V_convert, ↓V_bytes, stdl, cond_true, cond_false, Nat.reduceEqDiff, Nat.reduceAdd, Nat.reduceMul, Nat.reduceSub, Nat.reduceLT, Int.reduceEq, Int.reduceLT, Int.reduceLE, Int.reduceNeg, Nat.reduceLeDiff, if_true, if_false, ↓reduceIte, forall_const, implies_true, reduceCtorEq, forall_eq_or_imp, forall_eq, ne_eq, hl, hlt]
end Go.Proofs.YtobnbajakenbeaaGreat


/- Contracts: the law's own functions for inodes and file systems: sizes, copies, equality.  -/
set_option linter.all false
set_option maxRecDepth 10000
set_option maxHeartbeats 2000000
namespace Go.Proofs.YtobnbajakenbeaaGreat
open Go Go.Eng

structure FS where
  tick : Int
  quotas : List Quota
  inodes : List Inode
  data : List (List UInt8)
  deriving DecidableEq, Inhabited
def fsAV (f : FS) : AV := .agg [I f.tick, .rd 2 (f.quotas.map quotaRow), .rd 10 (f.inodes.map inodeRow), .rd 1 (f.data.map strRow)]

/-! ### sizes -/
def wtN (n : Inode) : Nat := n.blocks.length + (n.acl.length + n.dflt.length)
def sumN (l : List Inode) : Nat := (l.map wtN).sum
def wtNs (l : List Inode) : Nat := l.length + sumN l
def wtFS (f : FS) : Nat := f.quotas.length + (wtNs f.inodes + wtS f.data)
/-- The lengths are such as a machine can have. -/
def Inode.big (n : Inode) : Prop := n.blocks.length ≤ 9223372036854775807 ∧ n.acl.length ≤ 9223372036854775807 ∧ n.dflt.length ≤ 9223372036854775807
theorem sumN_step {l : List Inode} {i : Nat} (h : i < l.length) : sumN (l.drop i) = wtN (l.getD i default) + sumN (l.drop (i + 1)) := by
  rw [drop_getD default h]; rfl
theorem sumN_end {l : List Inode} {i : Nat} (h : ¬ i < l.length) : sumN (l.drop i) = 0 := by rw [drop_end _ _ h]; rfl
theorem spend_ge {left : Int} {n : Nat} (h0 : 0 ≤ left) (h : ¬ spend left n < 0) : ¬ left < n := by rw [spend_neg h0] at h; exact h
theorem l_szInode (n : Inode) (left : Int) (h0 : 0 ≤ left) (h1 : left ≤ 1048576) (hb : n.big) : Gives Go.Proofs.Tryz.prog 48 [inodeAV n, I left] (.int .i64 (spend left (wtN n))) := by
  refine gives_of_V mixed Go.Proofs.Tryz.call48 Go.Proofs.Tryz.func48 rfl (by rw [Go.Proofs.Tryz.ntmps48]; simp) ?_
  simp (maxSteps := 2000000) only [↓ctl, evl, val, valP, own, app, wrt, tys, Tryz.ntmps48, Tryz.results48, ↓V_convert, ↓V_bytes, stdl, cond_true, cond_false, Nat.reduceEqDiff, Nat.reduceAdd, Nat.reduceMul, Nat.reduceSub, Nat.reduceLT, Int.reduceEq, Int.reduceLT, Int.reduceLE, Int.reduceNeg, Nat.reduceLeDiff, if_true, if_false, ↓reduceIte, forall_const, implies_true, reduceCtorEq, forall_eq_or_imp, forall_eq, ne_eq, inodeAV]
  refine V_callF mixed (cap := []) (fun _ => l_szIntS n.blocks left h0 h1 hb.1) (by simp (maxSteps := 2000000) (contextual := true) only [↓ctl, evl, val, valP, own, app, wrt, tys, Tryz.ntmps48, Tryz.results48, ↓V_convert, ↓V_bytes, stdl, cond_true, cond_false, Nat.reduceEqDiff, Nat.reduceAdd, Nat.reduceMul, Nat.reduceSub, Nat.reduceLT, Int.reduceEq, Int.reduceLT, Int.reduceLE, Int.reduceNeg, Nat.reduceLeDiff, if_true, if_false, ↓reduceIte, forall_const, implies_true, reduceCtorEq, forall_eq_or_imp, forall_eq, ne_eq]) (by simp (maxSteps := 2000000) (contextual := true) only [↓ctl, evl, val, valP, own, app, wrt, tys, Tryz.ntmps48, Tryz.results48, ↓V_convert, ↓V_bytes, stdl, cond_true, cond_false, Nat.reduceEqDiff, Nat.reduceAdd, Nat.reduceMul, Nat.reduceSub, Nat.reduceLT, Int.reduceEq, Int.reduceLT, Int.reduceLE, Int.reduceNeg, Nat.reduceLeDiff, if_true, if_false, ↓reduceIte, forall_const, implies_true, reduceCtorEq, forall_eq_or_imp, forall_eq, ne_eq]) (by simp (maxSteps := 2000000) (contextual := true) only [↓ctl, evl, val, valP, own, app, wrt, tys, Tryz.ntmps48, Tryz.results48, ↓V_convert, ↓V_bytes, stdl, cond_true, cond_false, Nat.reduceEqDiff, Nat.reduceAdd, Nat.reduceMul, Nat.reduceSub, Nat.reduceLT, Int.reduceEq, Int.reduceLT, Int.reduceLE, Int.reduceNeg, Nat.reduceLeDiff, if_true, if_false, ↓reduceIte, forall_const, implies_true, reduceCtorEq, forall_eq_or_imp, forall_eq, ne_eq]) trivial ?_
  simp (maxSteps := 2000000) only [↓ctl, evl, val, valP, own, app, wrt, tys, Tryz.ntmps48, Tryz.results48, ↓V_convert, ↓V_bytes, stdl, cond_true, cond_false, Nat.reduceEqDiff, Nat.reduceAdd, Nat.reduceMul, Nat.reduceSub, Nat.reduceLT, Int.reduceEq, Int.reduceLT, Int.reduceLE, Int.reduceNeg, Nat.reduceLeDiff, if_true, if_false, ↓reduceIte, forall_const, implies_true, reduceCtorEq, forall_eq_or_imp, forall_eq, ne_eq]
  refine ⟨fun h => ?_, fun h => ?_⟩
  · rw [spend_neg h0] at h
    unfold wtN; rw [spend_out h0 h]
  have g1 := spend_ge h0 h
  have g2 := spend_ok g1
  refine V_callF mixed (cap := []) (fun _ => l_szAclEntryS n.acl (spend left n.blocks.length) (by rw [g2]; omega) (by rw [g2]; omega) hb.2.1) (by simp (maxSteps := 2000000) (contextual := true) only [↓ctl, evl, val, valP, own, app, wrt, tys, Tryz.ntmps48, Tryz.results48, ↓V_convert, ↓V_bytes, stdl, cond_true, cond_false, Nat.reduceEqDiff, Nat.reduceAdd, Nat.reduceMul, Nat.reduceSub, Nat.reduceLT, Int.reduceEq, Int.reduceLT, Int.reduceLE, Int.reduceNeg, Nat.reduceLeDiff, if_true, if_false, ↓reduceIte, forall_const, implies_true, reduceCtorEq, forall_eq_or_imp, forall_eq, ne_eq]) (by simp (maxSteps := 2000000) (contextual := true) only [↓ctl, evl, val, valP, own, app, wrt, tys, Tryz.ntmps48, Tryz.results48, ↓V_convert, ↓V_bytes, stdl, cond_true, cond_false, Nat.reduceEqDiff, Nat.reduceAdd, Nat.reduceMul, Nat.reduceSub, Nat.reduceLT, Int.reduceEq, Int.reduceLT, Int.reduceLE, Int.reduceNeg, Nat.reduceLeDiff, if_true, if_false, ↓reduceIte, forall_const, implies_true, reduceCtorEq, forall_eq_or_imp, forall_eq, ne_eq]) (by simp (maxSteps := 2000000) (contextual := true) only [↓ctl, evl, val, valP, own, app, wrt, tys, Tryz.ntmps48, Tryz.results48, ↓V_convert, ↓V_bytes, stdl, cond_true, cond_false, Nat.reduceEqDiff, Nat.reduceAdd, Nat.reduceMul, Nat.reduceSub, Nat.reduceLT, Int.reduceEq, Int.reduceLT, Int.reduceLE, Int.reduceNeg, Nat.reduceLeDiff, if_true, if_false, ↓reduceIte, forall_const, implies_true, reduceCtorEq, forall_eq_or_imp, forall_eq, ne_eq]) trivial ?_
  simp (maxSteps := 2000000) only [↓ctl, evl, val, valP, own, app, wrt, tys, Tryz.ntmps48, Tryz.results48, ↓V_convert, ↓V_bytes, stdl, cond_true, cond_false, Nat.reduceEqDiff, Nat.reduceAdd, Nat.reduceMul, Nat.reduceSub, Nat.reduceLT, Int.reduceEq, Int.reduceLT, Int.reduceLE, Int.reduceNeg, Nat.reduceLeDiff, if_true, if_false, ↓reduceIte, forall_const, implies_true, reduceCtorEq, forall_eq_or_imp, forall_eq, ne_eq]
  refine ⟨fun h => ?_, fun h => ?_⟩
  · rw [spend_neg (by rw [g2]; omega), g2] at h
    unfold wtN; rw [← Nat.add_assoc, spend_out h0 (by omega)]
  have g3 := spend_ge (by rw [g2]; omega) h
  rw [g2] at g3
  have g4 := spend_ok g3
  refine V_callF mixed (cap := []) (fun _ => l_szAclEntryS n.dflt (spend (spend left n.blocks.length) n.acl.length) (by rw [g2, g4]; omega) (by rw [g2, g4]; omega) hb.2.2) (by simp (maxSteps := 2000000) (contextual := true) only [↓ctl, evl, val, valP, own, app, wrt, tys, Tryz.ntmps48, Tryz.results48, ↓V_convert, ↓V_bytes, stdl, cond_true, cond_false, Nat.reduceEqDiff, Nat.reduceAdd, Nat.reduceMul, Nat.reduceSub, Nat.reduceLT, Int.reduceEq, Int.reduceLT, Int.reduceLE, Int.reduceNeg, Nat.reduceLeDiff, if_true, if_false, ↓reduceIte, forall_const, implies_true, reduceCtorEq, forall_eq_or_imp, forall_eq, ne_eq]) (by simp (maxSteps := 2000000) (contextual := true) only [↓ctl, evl, val, valP, own, app, wrt, tys, Tryz.ntmps48, Tryz.results48, ↓V_convert, ↓V_bytes, stdl, cond_true, cond_false, Nat.reduceEqDiff, Nat.reduceAdd, Nat.reduceMul, Nat.reduceSub, Nat.reduceLT, Int.reduceEq, Int.reduceLT, Int.reduceLE, Int.reduceNeg, Nat.reduceLeDiff, if_true, if_false, ↓reduceIte, forall_const, implies_true, reduceCtorEq, forall_eq_or_imp, forall_eq, ne_eq]) (by simp (maxSteps := 2000000) (contextual := true) only [↓ctl, evl, val, valP, own, app, wrt, tys, Tryz.ntmps48, Tryz.results48, ↓V_convert, ↓V_bytes, stdl, cond_true, cond_false, Nat.reduceEqDiff, Nat.reduceAdd, Nat.reduceMul, Nat.reduceSub, Nat.reduceLT, Int.reduceEq, Int.reduceLT, Int.reduceLE, Int.reduceNeg, Nat.reduceLeDiff, if_true, if_false, ↓reduceIte, forall_const, implies_true, reduceCtorEq, forall_eq_or_imp, forall_eq, ne_eq]) trivial ?_
  simp (maxSteps := 2000000) only [↓ctl, evl, val, valP, own, app, wrt, tys, Tryz.ntmps48, Tryz.results48, ↓V_convert, ↓V_bytes, stdl, cond_true, cond_false, Nat.reduceEqDiff, Nat.reduceAdd, Nat.reduceMul, Nat.reduceSub, Nat.reduceLT, Int.reduceEq, Int.reduceLT, Int.reduceLE, Int.reduceNeg, Nat.reduceLeDiff, if_true, if_false, ↓reduceIte, forall_const, implies_true, reduceCtorEq, forall_eq_or_imp, forall_eq, ne_eq]
  have e : spend (spend (spend left n.blocks.length) n.acl.length) n.dflt.length = spend left (wtN n) := by
    rw [g2, g4, spend_add (a := n.acl.length) (by omega), spend_add (a := n.blocks.length) (by omega)]; rfl
  refine ⟨fun h => ?_, fun h => ?_⟩
  · rw [← e]; unfold spend at h ⊢; split at h <;> omega
  · rw [← e]
theorem l_szInodeS (a : List Inode) (left : Int) (h0 : 0 ≤ left) (h1 : left ≤ 1048576) (ha : a.length ≤ 9223372036854775807) (hs : ∀ s ∈ a, s.big) : Gives Go.Proofs.Tryz.prog 20 [.rd 10 (a.map inodeRow), I left] (.int .i64 (spend left (wtNs a))) := by
  refine gives_of_V mixed Go.Proofs.Tryz.call20 Go.Proofs.Tryz.func20 rfl (by rw [Go.Proofs.Tryz.ntmps20]; simp) ?_
  have e1 : IntKind.i64.wrap (left - (a.length : Int)) = left - a.length := wrap_id (by omega) (by omega)
  simp (maxSteps := 2000000) only [↓ctl, evl, val, valP, own, app, wrt, tys, Tryz.ntmps20, Tryz.results20, ↓V_convert, ↓V_bytes, stdl, cond_true, cond_false, Nat.reduceEqDiff, Nat.reduceAdd, Nat.reduceMul, Nat.reduceSub, Nat.reduceLT, Int.reduceEq, Int.reduceLT, Int.reduceLE, Int.reduceNeg, Nat.reduceLeDiff, if_true, if_false, ↓reduceIte, forall_const, implies_true, reduceCtorEq, forall_eq_or_imp, forall_eq, ne_eq, e1]
  refine ⟨fun h => ?_, fun h => ?_⟩
  · unfold wtNs; rw [spend_out h0 (by omega)]
  refine V_loopI mixed (ι := {p : Nat × Int // p.1 ≤ a.length ∧ 0 ≤ p.2 ∧ p.2 ≤ 1048576 ∧ spend left (wtNs a) = spend p.2 (sumN (a.drop p.1))}) (fun p => ⟨[(0, true, .rd 10 (a.map inodeRow)), (1, true, I p.1.2), (5, true, I p.1.1)], [], 0, 27⟩) (fun p => a.length - p.1.1) ⟨(0, left - a.length), by refine ⟨by omega, by omega, by omega, ?_⟩; unfold wtNs; rw [← spend_add (by omega)]; rfl⟩ ?_ ?_ ?_
  · refine weakI ?_
    simp (maxSteps := 2000000) only [↓ctl, evl, val, valP, own, app, wrt, tys, Tryz.ntmps20, Tryz.results20, ↓V_convert, ↓V_bytes, stdl, cond_true, cond_false, Nat.reduceEqDiff, Nat.reduceAdd, Nat.reduceMul, Nat.reduceSub, Nat.reduceLT, Int.reduceEq, Int.reduceLT, Int.reduceLE, Int.reduceNeg, Nat.reduceLeDiff, if_true, if_false, ↓reduceIte, forall_const, implies_true, reduceCtorEq, forall_eq_or_imp, forall_eq, ne_eq]
    rfl
  · trivial
  · rintro ⟨⟨i, r⟩, hi, hr0, hr1, hx⟩
    simp only at hi hr0 hr1 hx
    by_cases hlt : i < a.length
    · have hl := hs _ (show a.getD i default ∈ a by rw [getD_get a i _ hlt]; exact List.getElem_mem hlt)
      simp (maxSteps := 2000000) only [↓ctl, evl, val, valP, own, app, wrt, tys, Tryz.ntmps20, Tryz.results20, ↓V_convert, ↓V_bytes, stdl, cond_true, cond_false, Nat.reduceEqDiff, Nat.reduceAdd, Nat.reduceMul, Nat.reduceSub, Nat.reduceLT, Int.reduceEq, Int.reduceLT, Int.reduceLE, Int.reduceNeg, Nat.reduceLeDiff, if_true, if_false, ↓reduceIte, forall_const, implies_true, reduceCtorEq, forall_eq_or_imp, forall_eq, ne_eq, hlt, inodeRow_e, ints_map, acls_map]
      refine V_callF mixed (cap := []) (fun _ => l_szInode (a.getD i default) r hr0 hr1 hl) (by simp (maxSteps := 2000000) only [↓ctl, evl, val, valP, own, app, wrt, tys, Tryz.ntmps20, Tryz.results20, ↓V_convert, ↓V_bytes, stdl, cond_true, cond_false, Nat.reduceEqDiff, Nat.reduceAdd, Nat.reduceMul, Nat.reduceSub, Nat.reduceLT, Int.reduceEq, Int.reduceLT, Int.reduceLE, Int.reduceNeg, Nat.reduceLeDiff, if_true, if_false, ↓reduceIte, forall_const, implies_true, reduceCtorEq, forall_eq_or_imp, forall_eq, ne_eq, inodeAV, ints_map, acls_map]) (by simp (maxSteps := 2000000) only [↓ctl, evl, val, valP, own, app, wrt, tys, Tryz.ntmps20, Tryz.results20, ↓V_convert, ↓V_bytes, stdl, cond_true, cond_false, Nat.reduceEqDiff, Nat.reduceAdd, Nat.reduceMul, Nat.reduceSub, Nat.reduceLT, Int.reduceEq, Int.reduceLT, Int.reduceLE, Int.reduceNeg, Nat.reduceLeDiff, if_true, if_false, ↓reduceIte, forall_const, implies_true, reduceCtorEq, forall_eq_or_imp, forall_eq, ne_eq]) (by simp (maxSteps := 2000000) only [↓ctl, evl, val, valP, own, app, wrt, tys, Tryz.ntmps20, Tryz.results20, ↓V_convert, ↓V_bytes, stdl, cond_true, cond_false, Nat.reduceEqDiff, Nat.reduceAdd, Nat.reduceMul, Nat.reduceSub, Nat.reduceLT, Int.reduceEq, Int.reduceLT, Int.reduceLE, Int.reduceNeg, Nat.reduceLeDiff, if_true, if_false, ↓reduceIte, forall_const, implies_true, reduceCtorEq, forall_eq_or_imp, forall_eq, ne_eq]) trivial ?_
      simp (maxSteps := 2000000) only [↓ctl, evl, val, valP, own, app, wrt, tys, Tryz.ntmps20, Tryz.results20, ↓V_convert, ↓V_bytes, stdl, cond_true, cond_false, Nat.reduceEqDiff, Nat.reduceAdd, Nat.reduceMul, Nat.reduceSub, Nat.reduceLT, Int.reduceEq, Int.reduceLT, Int.reduceLE, Int.reduceNeg, Nat.reduceLeDiff, if_true, if_false, ↓reduceIte, forall_const, implies_true, reduceCtorEq, forall_eq_or_imp, forall_eq, ne_eq]
      refine ⟨fun h => ?_, fun h => V_backI ⟨(i + 1, spend r (wtN (a.getD i default))), ?_⟩ (by show _ - (i + 1) < _; omega) (weakI ?_)⟩
      · rw [spend_neg hr0] at h
        rw [hx, sumN_step hlt, spend_out hr0 (by omega)]
      · have g1 := spend_ge hr0 h
        have g2 := spend_ok g1
        refine ⟨by simp only; omega, by simp only; rw [g2]; omega, by simp only; rw [g2]; omega, ?_⟩
        simp only
        rw [hx, sumN_step hlt, g2, spend_add (by omega)]
      · simp (maxSteps := 2000000) only [↓ctl, evl, val, valP, own, app, wrt, tys, Tryz.ntmps20, Tryz.results20, ↓V_convert, ↓V_bytes, stdl, cond_true, cond_false, Nat.reduceEqDiff, Nat.reduceAdd, Nat.reduceMul, Nat.reduceSub, Nat.reduceLT, Int.reduceEq, Int.reduceLT, Int.reduceLE, Int.reduceNeg, Nat.reduceLeDiff, if_true, if_false, ↓reduceIte, forall_const, implies_true, reduceCtorEq, forall_eq_or_imp, forall_eq, ne_eq]
        rw [wrap_id (by omega) (by omega)]
        rfl
    · simp (maxSteps := 2000000) only [↓ctl, evl, val, valP, own, app, wrt, tys, Tryz.ntmps20, Tryz.results20, ↓V_convert, ↓V_bytes, stdl, cond_true, cond_false, Nat.reduceEqDiff, Nat.reduceAdd, Nat.reduceMul, Nat.reduceSub, Nat.reduceLT, Int.reduceEq, Int.reduceLT, Int.reduceLE, Int.reduceNeg, Nat.reduceLeDiff, if_true, if_false, ↓reduceIte, forall_const, implies_true, reduceCtorEq, forall_eq_or_imp, forall_eq, ne_eq, hlt]
      rw [hx, sumN_end hlt, spend_zero hr0]
def FS.big (f : FS) : Prop := f.quotas.length ≤ 9223372036854775807 ∧ f.inodes.length ≤ 9223372036854775807 ∧ f.data.length ≤ 9223372036854775807 ∧ (∀ n ∈ f.inodes, n.big) ∧ ∀ s ∈ f.data, s.length ≤ 9223372036854775807
theorem l_szFS (f : FS) (left : Int) (h0 : 0 ≤ left) (h1 : left ≤ 1048576) (hb : f.big) : Gives Go.Proofs.Tryz.prog 5 [fsAV f, I left] (.int .i64 (spend left (wtFS f))) := by
  refine gives_of_V mixed Go.Proofs.Tryz.call5 Go.Proofs.Tryz.func5 rfl (by rw [Go.Proofs.Tryz.ntmps5]; simp) ?_
  simp (maxSteps := 2000000) only [↓ctl, evl, val, valP, own, app, wrt, tys, Tryz.ntmps5, Tryz.results5, ↓V_convert, ↓V_bytes, stdl, cond_true, cond_false, Nat.reduceEqDiff, Nat.reduceAdd, Nat.reduceMul, Nat.reduceSub, Nat.reduceLT, Int.reduceEq, Int.reduceLT, Int.reduceLE, Int.reduceNeg, Nat.reduceLeDiff, if_true, if_false, ↓reduceIte, forall_const, implies_true, reduceCtorEq, forall_eq_or_imp, forall_eq, ne_eq, fsAV]
  refine V_callF mixed (cap := []) (fun _ => l_szQuotaS f.quotas left h0 h1 hb.1) (by simp (maxSteps := 2000000) (contextual := true) only [↓ctl, evl, val, valP, own, app, wrt, tys, Tryz.ntmps5, Tryz.results5, ↓V_convert, ↓V_bytes, stdl, cond_true, cond_false, Nat.reduceEqDiff, Nat.reduceAdd, Nat.reduceMul, Nat.reduceSub, Nat.reduceLT, Int.reduceEq, Int.reduceLT, Int.reduceLE, Int.reduceNeg, Nat.reduceLeDiff, if_true, if_false, ↓reduceIte, forall_const, implies_true, reduceCtorEq, forall_eq_or_imp, forall_eq, ne_eq]) (by simp (maxSteps := 2000000) (contextual := true) only [↓ctl, evl, val, valP, own, app, wrt, tys, Tryz.ntmps5, Tryz.results5, ↓V_convert, ↓V_bytes, stdl, cond_true, cond_false, Nat.reduceEqDiff, Nat.reduceAdd, Nat.reduceMul, Nat.reduceSub, Nat.reduceLT, Int.reduceEq, Int.reduceLT, Int.reduceLE, Int.reduceNeg, Nat.reduceLeDiff, if_true, if_false, ↓reduceIte, forall_const, implies_true, reduceCtorEq, forall_eq_or_imp, forall_eq, ne_eq]) (by simp (maxSteps := 2000000) (contextual := true) only [↓ctl, evl, val, valP, own, app, wrt, tys, Tryz.ntmps5, Tryz.results5, ↓V_convert, ↓V_bytes, stdl, cond_true, cond_false, Nat.reduceEqDiff, Nat.reduceAdd, Nat.reduceMul, Nat.reduceSub, Nat.reduceLT, Int.reduceEq, Int.reduceLT, Int.reduceLE, Int.reduceNeg, Nat.reduceLeDiff, if_true, if_false, ↓reduceIte, forall_const, implies_true, reduceCtorEq, forall_eq_or_imp, forall_eq, ne_eq]) trivial ?_
  simp (maxSteps := 2000000) only [↓ctl, evl, val, valP, own, app, wrt, tys, Tryz.ntmps5, Tryz.results5, ↓V_convert, ↓V_bytes, stdl, cond_true, cond_false, Nat.reduceEqDiff, Nat.reduceAdd, Nat.reduceMul, Nat.reduceSub, Nat.reduceLT, Int.reduceEq, Int.reduceLT, Int.reduceLE, Int.reduceNeg, Nat.reduceLeDiff, if_true, if_false, ↓reduceIte, forall_const, implies_true, reduceCtorEq, forall_eq_or_imp, forall_eq, ne_eq]
  refine ⟨fun h => ?_, fun h => ?_⟩
  · rw [spend_neg h0] at h
    unfold wtFS; rw [spend_out h0 h]
  have g1 := spend_ge h0 h
  have g2 := spend_ok g1
  refine V_callF mixed (cap := []) (fun _ => l_szInodeS f.inodes (spend left f.quotas.length) (by rw [g2]; omega) (by rw [g2]; omega) hb.2.1 hb.2.2.2.1) (by simp (maxSteps := 2000000) (contextual := true) only [↓ctl, evl, val, valP, own, app, wrt, tys, Tryz.ntmps5, Tryz.results5, ↓V_convert, ↓V_bytes, stdl, cond_true, cond_false, Nat.reduceEqDiff, Nat.reduceAdd, Nat.reduceMul, Nat.reduceSub, Nat.reduceLT, Int.reduceEq, Int.reduceLT, Int.reduceLE, Int.reduceNeg, Nat.reduceLeDiff, if_true, if_false, ↓reduceIte, forall_const, implies_true, reduceCtorEq, forall_eq_or_imp, forall_eq, ne_eq]) (by simp (maxSteps := 2000000) (contextual := true) only [↓ctl, evl, val, valP, own, app, wrt, tys, Tryz.ntmps5, Tryz.results5, ↓V_convert, ↓V_bytes, stdl, cond_true, cond_false, Nat.reduceEqDiff, Nat.reduceAdd, Nat.reduceMul, Nat.reduceSub, Nat.reduceLT, Int.reduceEq, Int.reduceLT, Int.reduceLE, Int.reduceNeg, Nat.reduceLeDiff, if_true, if_false, ↓reduceIte, forall_const, implies_true, reduceCtorEq, forall_eq_or_imp, forall_eq, ne_eq]) (by simp (maxSteps := 2000000) (contextual := true) only [↓ctl, evl, val, valP, own, app, wrt, tys, Tryz.ntmps5, Tryz.results5, ↓V_convert, ↓V_bytes, stdl, cond_true, cond_false, Nat.reduceEqDiff, Nat.reduceAdd, Nat.reduceMul, Nat.reduceSub, Nat.reduceLT, Int.reduceEq, Int.reduceLT, Int.reduceLE, Int.reduceNeg, Nat.reduceLeDiff, if_true, if_false, ↓reduceIte, forall_const, implies_true, reduceCtorEq, forall_eq_or_imp, forall_eq, ne_eq]) trivial ?_
  simp (maxSteps := 2000000) only [↓ctl, evl, val, valP, own, app, wrt, tys, Tryz.ntmps5, Tryz.results5, ↓V_convert, ↓V_bytes, stdl, cond_true, cond_false, Nat.reduceEqDiff, Nat.reduceAdd, Nat.reduceMul, Nat.reduceSub, Nat.reduceLT, Int.reduceEq, Int.reduceLT, Int.reduceLE, Int.reduceNeg, Nat.reduceLeDiff, if_true, if_false, ↓reduceIte, forall_const, implies_true, reduceCtorEq, forall_eq_or_imp, forall_eq, ne_eq]
  refine ⟨fun h => ?_, fun h => ?_⟩
  · rw [spend_neg (by rw [g2]; omega), g2] at h
    unfold wtFS; rw [← Nat.add_assoc, spend_out h0 (by omega)]
  have g3 := spend_ge (by rw [g2]; omega) h
  rw [g2] at g3
  have g4 := spend_ok g3
  refine V_callF mixed (cap := []) (fun _ => l_szStringS f.data (spend (spend left f.quotas.length) (wtNs f.inodes)) (by rw [g2, g4]; omega) (by rw [g2, g4]; omega) hb.2.2.1 hb.2.2.2.2) (by simp (maxSteps := 2000000) (contextual := true) only [↓ctl, evl, val, valP, own, app, wrt, tys, Tryz.ntmps5, Tryz.results5, ↓V_convert, ↓V_bytes, stdl, cond_true, cond_false, Nat.reduceEqDiff, Nat.reduceAdd, Nat.reduceMul, Nat.reduceSub, Nat.reduceLT, Int.reduceEq, Int.reduceLT, Int.reduceLE, Int.reduceNeg, Nat.reduceLeDiff, if_true, if_false, ↓reduceIte, forall_const, implies_true, reduceCtorEq, forall_eq_or_imp, forall_eq, ne_eq]) (by simp (maxSteps := 2000000) (contextual := true) only [↓ctl, evl, val, valP, own, app, wrt, tys, Tryz.ntmps5, Tryz.results5, ↓V_convert, ↓V_bytes, stdl, cond_true, cond_false, Nat.reduceEqDiff, Nat.reduceAdd, Nat.reduceMul, Nat.reduceSub, Nat.reduceLT, Int.reduceEq, Int.reduceLT, Int.reduceLE, Int.reduceNeg, Nat.reduceLeDiff, if_true, if_false, ↓reduceIte, forall_const, implies_true, reduceCtorEq, forall_eq_or_imp, forall_eq, ne_eq]) (by simp (maxSteps := 2000000) (contextual := true) only [↓ctl, evl, val, valP, own, app, wrt, tys, Tryz.ntmps5, Tryz.results5, ↓V_convert, ↓V_bytes, stdl, cond_true, cond_false, Nat.reduceEqDiff, Nat.reduceAdd, Nat.reduceMul, Nat.reduceSub, Nat.reduceLT, Int.reduceEq, Int.reduceLT, Int.reduceLE, Int.reduceNeg, Nat.reduceLeDiff, if_true, if_false, ↓reduceIte, forall_const, implies_true, reduceCtorEq, forall_eq_or_imp, forall_eq, ne_eq]) trivial ?_
  simp (maxSteps := 2000000) only [↓ctl, evl, val, valP, own, app, wrt, tys, Tryz.ntmps5, Tryz.results5, ↓V_convert, ↓V_bytes, stdl, cond_true, cond_false, Nat.reduceEqDiff, Nat.reduceAdd, Nat.reduceMul, Nat.reduceSub, Nat.reduceLT, Int.reduceEq, Int.reduceLT, Int.reduceLE, Int.reduceNeg, Nat.reduceLeDiff, if_true, if_false, ↓reduceIte, forall_const, implies_true, reduceCtorEq, forall_eq_or_imp, forall_eq, ne_eq]
  have e : spend (spend (spend left f.quotas.length) (wtNs f.inodes)) (wtS f.data) = spend left (wtFS f) := by
    rw [g2, g4, spend_add (a := wtNs f.inodes) (by omega), spend_add (a := f.quotas.length) (by omega)]; rfl
  refine ⟨fun h => ?_, fun h => ?_⟩
  · rw [← e]; unfold spend at h ⊢; split at h <;> omega
  · rw [← e]

/-! ### copies -/
/-- The lengths are within the law's bound. -/
def Inode.sml (n : Inode) : Prop := n.blocks.length ≤ 1048576 ∧ n.acl.length ≤ 1048576 ∧ n.dflt.length ≤ 1048576
theorem l_toInode (n : Inode) (hb : n.sml) : Reads Go.Proofs.Tryz.prog 58 [inodeAV n] (.agg [I n.kind, I n.mode, I n.uid, I n.gid, I n.links, I n.size, I n.tick, .sl 3 1 0 n.blocks.length, .sl 4 3 0 n.acl.length, .sl 5 3 0 n.dflt.length])
    [(3, .row 3 1 (n.blocks.map intRow)), (4, .row 130 3 (n.acl.map aclRow)), (5, .row 130 3 (n.dflt.map aclRow))] 6 := by
  refine reads_of_V mixed Go.Proofs.Tryz.call58 Go.Proofs.Tryz.func58 rfl (by rw [Go.Proofs.Tryz.ntmps58]; simp) ?_
  simp (maxSteps := 2000000) only [↓ctl, evl, val, valP, own, app, wrt, tys, Tryz.ntmps58, Tryz.results58, ↓V_convert, ↓V_bytes, stdl, cond_true, cond_false, Nat.reduceEqDiff, Nat.reduceAdd, Nat.reduceMul, Nat.reduceSub, Nat.reduceLT, Int.reduceEq, Int.reduceLT, Int.reduceLE, Int.reduceNeg, Nat.reduceLeDiff, if_true, if_false, ↓reduceIte, forall_const, implies_true, reduceCtorEq, forall_eq_or_imp, forall_eq, ne_eq, inodeAV]
  refine V_callR mixed (cap := []) (l_toIntS n.blocks hb.1) (by simp (maxSteps := 2000000) only [↓ctl, evl, val, valP, own, app, wrt, tys, Tryz.ntmps58, Tryz.results58, ↓V_convert, ↓V_bytes, stdl, cond_true, cond_false, Nat.reduceEqDiff, Nat.reduceAdd, Nat.reduceMul, Nat.reduceSub, Nat.reduceLT, Int.reduceEq, Int.reduceLT, Int.reduceLE, Int.reduceNeg, Nat.reduceLeDiff, if_true, if_false, ↓reduceIte, forall_const, implies_true, reduceCtorEq, forall_eq_or_imp, forall_eq, ne_eq]) (by simp (maxSteps := 2000000) only [↓ctl, evl, val, valP, own, app, wrt, tys, Tryz.ntmps58, Tryz.results58, ↓V_convert, ↓V_bytes, stdl, cond_true, cond_false, Nat.reduceEqDiff, Nat.reduceAdd, Nat.reduceMul, Nat.reduceSub, Nat.reduceLT, Int.reduceEq, Int.reduceLT, Int.reduceLE, Int.reduceNeg, Nat.reduceLeDiff, if_true, if_false, ↓reduceIte, forall_const, implies_true, reduceCtorEq, forall_eq_or_imp, forall_eq, ne_eq]) (by simp (maxSteps := 2000000) only [↓ctl, evl, val, valP, own, app, wrt, tys, Tryz.ntmps58, Tryz.results58, ↓V_convert, ↓V_bytes, stdl, cond_true, cond_false, Nat.reduceEqDiff, Nat.reduceAdd, Nat.reduceMul, Nat.reduceSub, Nat.reduceLT, Int.reduceEq, Int.reduceLT, Int.reduceLE, Int.reduceNeg, Nat.reduceLeDiff, if_true, if_false, ↓reduceIte, forall_const, implies_true, reduceCtorEq, forall_eq_or_imp, forall_eq, ne_eq]) trivial ?_
  simp (maxSteps := 2000000) only [↓ctl, evl, val, valP, own, app, wrt, tys, Tryz.ntmps58, Tryz.results58, ↓V_convert, ↓V_bytes, stdl, cond_true, cond_false, Nat.reduceEqDiff, Nat.reduceAdd, Nat.reduceMul, Nat.reduceSub, Nat.reduceLT, Int.reduceEq, Int.reduceLT, Int.reduceLE, Int.reduceNeg, Nat.reduceLeDiff, if_true, if_false, ↓reduceIte, forall_const, implies_true, reduceCtorEq, forall_eq_or_imp, forall_eq, ne_eq]
  refine V_callR mixed (cap := []) (l_toAclEntryS n.acl hb.2.1) (by simp (maxSteps := 2000000) only [↓ctl, evl, val, valP, own, app, wrt, tys, Tryz.ntmps58, Tryz.results58, ↓V_convert, ↓V_bytes, stdl, cond_true, cond_false, Nat.reduceEqDiff, Nat.reduceAdd, Nat.reduceMul, Nat.reduceSub, Nat.reduceLT, Int.reduceEq, Int.reduceLT, Int.reduceLE, Int.reduceNeg, Nat.reduceLeDiff, if_true, if_false, ↓reduceIte, forall_const, implies_true, reduceCtorEq, forall_eq_or_imp, forall_eq, ne_eq]) (by simp (maxSteps := 2000000) only [↓ctl, evl, val, valP, own, app, wrt, tys, Tryz.ntmps58, Tryz.results58, ↓V_convert, ↓V_bytes, stdl, cond_true, cond_false, Nat.reduceEqDiff, Nat.reduceAdd, Nat.reduceMul, Nat.reduceSub, Nat.reduceLT, Int.reduceEq, Int.reduceLT, Int.reduceLE, Int.reduceNeg, Nat.reduceLeDiff, if_true, if_false, ↓reduceIte, forall_const, implies_true, reduceCtorEq, forall_eq_or_imp, forall_eq, ne_eq]) (by simp (maxSteps := 2000000) only [↓ctl, evl, val, valP, own, app, wrt, tys, Tryz.ntmps58, Tryz.results58, ↓V_convert, ↓V_bytes, stdl, cond_true, cond_false, Nat.reduceEqDiff, Nat.reduceAdd, Nat.reduceMul, Nat.reduceSub, Nat.reduceLT, Int.reduceEq, Int.reduceLT, Int.reduceLE, Int.reduceNeg, Nat.reduceLeDiff, if_true, if_false, ↓reduceIte, forall_const, implies_true, reduceCtorEq, forall_eq_or_imp, forall_eq, ne_eq]) trivial ?_
  simp (maxSteps := 2000000) only [↓ctl, evl, val, valP, own, app, wrt, tys, Tryz.ntmps58, Tryz.results58, ↓V_convert, ↓V_bytes, stdl, cond_true, cond_false, Nat.reduceEqDiff, Nat.reduceAdd, Nat.reduceMul, Nat.reduceSub, Nat.reduceLT, Int.reduceEq, Int.reduceLT, Int.reduceLE, Int.reduceNeg, Nat.reduceLeDiff, if_true, if_false, ↓reduceIte, forall_const, implies_true, reduceCtorEq, forall_eq_or_imp, forall_eq, ne_eq]
  refine V_callR mixed (cap := []) (l_toAclEntryS n.dflt hb.2.2) (by simp (maxSteps := 2000000) only [↓ctl, evl, val, valP, own, app, wrt, tys, Tryz.ntmps58, Tryz.results58, ↓V_convert, ↓V_bytes, stdl, cond_true, cond_false, Nat.reduceEqDiff, Nat.reduceAdd, Nat.reduceMul, Nat.reduceSub, Nat.reduceLT, Int.reduceEq, Int.reduceLT, Int.reduceLE, Int.reduceNeg, Nat.reduceLeDiff, if_true, if_false, ↓reduceIte, forall_const, implies_true, reduceCtorEq, forall_eq_or_imp, forall_eq, ne_eq]) (by simp (maxSteps := 2000000) only [↓ctl, evl, val, valP, own, app, wrt, tys, Tryz.ntmps58, Tryz.results58, ↓V_convert, ↓V_bytes, stdl, cond_true, cond_false, Nat.reduceEqDiff, Nat.reduceAdd, Nat.reduceMul, Nat.reduceSub, Nat.reduceLT, Int.reduceEq, Int.reduceLT, Int.reduceLE, Int.reduceNeg, Nat.reduceLeDiff, if_true, if_false, ↓reduceIte, forall_const, implies_true, reduceCtorEq, forall_eq_or_imp, forall_eq, ne_eq]) (by simp (maxSteps := 2000000) only [↓ctl, evl, val, valP, own, app, wrt, tys, Tryz.ntmps58, Tryz.results58, ↓V_convert, ↓V_bytes, stdl, cond_true, cond_false, Nat.reduceEqDiff, Nat.reduceAdd, Nat.reduceMul, Nat.reduceSub, Nat.reduceLT, Int.reduceEq, Int.reduceLT, Int.reduceLE, Int.reduceNeg, Nat.reduceLeDiff, if_true, if_false, ↓reduceIte, forall_const, implies_true, reduceCtorEq, forall_eq_or_imp, forall_eq, ne_eq]) trivial ?_
  simp (maxSteps := 2000000) only [↓ctl, evl, val, valP, own, app, wrt, tys, Tryz.ntmps58, Tryz.results58, ↓V_convert, ↓V_bytes, stdl, cond_true, cond_false, Nat.reduceEqDiff, Nat.reduceAdd, Nat.reduceMul, Nat.reduceSub, Nat.reduceLT, Int.reduceEq, Int.reduceLT, Int.reduceLE, Int.reduceNeg, Nat.reduceLeDiff, if_true, if_false, ↓reduceIte, forall_const, implies_true, reduceCtorEq, forall_eq_or_imp, forall_eq, ne_eq]
end Go.Proofs.YtobnbajakenbeaaGreat


/- Contracts: the law's own functions for inodes and file systems: copies, equality.  -/
set_option linter.all false
set_option maxRecDepth 10000
set_option maxHeartbeats 2000000
namespace Go.Proofs.YtobnbajakenbeaaGreat
open Go Go.Eng

/-- An inode whose slices are own rows. -/
def inoCells (n : Inode) (k1 k2 k3 : Nat) : List AV := [I n.kind, I n.mode, I n.uid, I n.gid, I n.links, I n.size, I n.tick, .sl k1 1 0 n.blocks.length, .sl k2 3 0 n.acl.length, .sl k3 3 0 n.dflt.length]
def zeroIno : List Cell := [.v (.int .i64 0), .v (.int .i64 0), .v (.int .i64 0), .v (.int .i64 0), .v (.int .i64 0), .v (.int .i64 0), .v (.int .i64 0), .v (.slice none 0 0), .v (.slice none 0 0), .v (.slice none 0 0)]
theorem l_toInodeS (a : List Inode) (ha : a.length ≤ 1048576) (hs : ∀ s ∈ a, s.sml) : Reads Go.Proofs.Tryz.prog 25 [.rd 10 (a.map inodeRow)] (.sl 0 10 0 a.length) [(0, .row 81 10 (a.map inodeRow))] 1 := by
  refine reads_of_V mixed Go.Proofs.Tryz.call25 Go.Proofs.Tryz.func25 rfl (by rw [Go.Proofs.Tryz.ntmps25]; simp) ?_
  have n1 : (0 : Int) ≤ a.length := by omega
  have n2 : (a.length : Int) ≤ 1099511627776 := by omega
  simp (maxSteps := 2000000) only [↓ctl, evl, val, valP, own, app, wrt, tys, Tryz.ntmps25, Tryz.results25, ↓V_convert, ↓V_bytes, stdl, cond_true, cond_false, Nat.reduceEqDiff, Nat.reduceAdd, Nat.reduceMul, Nat.reduceSub, Nat.reduceLT, Int.reduceEq, Int.reduceLT, Int.reduceLE, Int.reduceNeg, Nat.reduceLeDiff, if_true, if_false, ↓reduceIte, forall_const, implies_true, reduceCtorEq, forall_eq_or_imp, forall_eq, ne_eq, n1, n2]
  refine ⟨Nat.le_refl _, ?_⟩
  refine V_loopI mixed (ι := {i : Nat // i ≤ a.length}) (fun i => ⟨[(0, true, .rd 10 (a.map inodeRow)), (3, true, .sl 0 10 0 a.length), (4, true, I i.1)], [(0, .row 81 10 (fillR inodeRow zeroIno a i.1))], 1, 23⟩) (fun i => a.length - i.1)  ⟨0, by omega⟩ ?_ ?_ ?_
  · refine weakI ?_
    simp (maxSteps := 2000000) only [↓ctl, evl, val, valP, own, app, wrt, tys, Tryz.ntmps25, Tryz.results25, ↓V_convert, ↓V_bytes, stdl, cond_true, cond_false, Nat.reduceEqDiff, Nat.reduceAdd, Nat.reduceMul, Nat.reduceSub, Nat.reduceLT, Int.reduceEq, Int.reduceLT, Int.reduceLE, Int.reduceNeg, Nat.reduceLeDiff, if_true, if_false, ↓reduceIte, forall_const, implies_true, reduceCtorEq, forall_eq_or_imp, forall_eq, ne_eq]
    exact ⟨rfl, congrArg (Chunk.row _ _) (fillR_zero inodeRow zeroIno a)⟩
  · trivial
  · rintro ⟨i, hi⟩
    by_cases hlt : i < a.length
    · have g1 := fillR_length inodeRow zeroIno a i hi
      have g2 := fillR_getD inodeRow zeroIno a i hlt
      have g3 : zeroIno.length = 10 := rfl
      have hm := hs _ (show a.getD i default ∈ a by rw [getD_get a i _ hlt]; exact List.getElem_mem hlt)
      simp (maxSteps := 2000000) only [↓ctl, evl, val, valP, own, app, wrt, tys, Tryz.ntmps25, Tryz.results25, ↓V_convert, ↓V_bytes, stdl, cond_true, cond_false, Nat.reduceEqDiff, Nat.reduceAdd, Nat.reduceMul, Nat.reduceSub, Nat.reduceLT, Int.reduceEq, Int.reduceLT, Int.reduceLE, Int.reduceNeg, Nat.reduceLeDiff, if_true, if_false, ↓reduceIte, forall_const, implies_true, reduceCtorEq, forall_eq_or_imp, forall_eq, ne_eq, hlt, g1, g2, inodeRow_e, ints_map, acls_map]
      refine V_callR mixed (cap := []) (l_toInode (a.getD i default) hm) (by simp (maxSteps := 2000000) only [↓ctl, evl, val, valP, own, app, wrt, tys, Tryz.ntmps25, Tryz.results25, ↓V_convert, ↓V_bytes, stdl, cond_true, cond_false, Nat.reduceEqDiff, Nat.reduceAdd, Nat.reduceMul, Nat.reduceSub, Nat.reduceLT, Int.reduceEq, Int.reduceLT, Int.reduceLE, Int.reduceNeg, Nat.reduceLeDiff, if_true, if_false, ↓reduceIte, forall_const, implies_true, reduceCtorEq, forall_eq_or_imp, forall_eq, ne_eq, inodeAV, ints_map, acls_map]) (by simp (maxSteps := 2000000) only [↓ctl, evl, val, valP, own, app, wrt, tys, Tryz.ntmps25, Tryz.results25, ↓V_convert, ↓V_bytes, stdl, cond_true, cond_false, Nat.reduceEqDiff, Nat.reduceAdd, Nat.reduceMul, Nat.reduceSub, Nat.reduceLT, Int.reduceEq, Int.reduceLT, Int.reduceLE, Int.reduceNeg, Nat.reduceLeDiff, if_true, if_false, ↓reduceIte, forall_const, implies_true, reduceCtorEq, forall_eq_or_imp, forall_eq, ne_eq]) (by simp (maxSteps := 2000000) only [↓ctl, evl, val, valP, own, app, wrt, tys, Tryz.ntmps25, Tryz.results25, ↓V_convert, ↓V_bytes, stdl, cond_true, cond_false, Nat.reduceEqDiff, Nat.reduceAdd, Nat.reduceMul, Nat.reduceSub, Nat.reduceLT, Int.reduceEq, Int.reduceLT, Int.reduceLE, Int.reduceNeg, Nat.reduceLeDiff, if_true, if_false, ↓reduceIte, forall_const, implies_true, reduceCtorEq, forall_eq_or_imp, forall_eq, ne_eq]) trivial ?_
      simp (maxSteps := 2000000) only [↓ctl, evl, val, valP, own, app, wrt, tys, Tryz.ntmps25, Tryz.results25, ↓V_convert, ↓V_bytes, stdl, cond_true, cond_false, Nat.reduceEqDiff, Nat.reduceAdd, Nat.reduceMul, Nat.reduceSub, Nat.reduceLT, Int.reduceEq, Int.reduceLT, Int.reduceLE, Int.reduceNeg, Nat.reduceLeDiff, if_true, if_false, ↓reduceIte, forall_const, implies_true, reduceCtorEq, forall_eq_or_imp, forall_eq, ne_eq, hlt, g1, g2]
      refine V_storeN mixed (k := 0) (i := i) (e := 81) (E := 10) (cells := inoCells (a.getD i default) 4 5 6) (rows := fillR inodeRow zeroIno a i) (row' := inodeRow (a.getD i default)) (ks := [4, 5, 6]) (t' := [(0, true, .rd 10 (a.map inodeRow)), (3, true, .sl 0 10 0 a.length), (4, true, I i)]) (h' := []) (by simp (maxSteps := 2000000) only [↓ctl, evl, val, valP, own, app, wrt, tys, Tryz.ntmps25, Tryz.results25, ↓V_convert, ↓V_bytes, stdl, cond_true, cond_false, Nat.reduceEqDiff, Nat.reduceAdd, Nat.reduceMul, Nat.reduceSub, Nat.reduceLT, Int.reduceEq, Int.reduceLT, Int.reduceLE, Int.reduceNeg, Nat.reduceLeDiff, if_true, if_false, ↓reduceIte, forall_const, implies_true, reduceCtorEq, forall_eq_or_imp, forall_eq, ne_eq, g1, g2, g3]) (by simp (maxSteps := 2000000) only [↓ctl, evl, val, valP, own, app, wrt, tys, Tryz.ntmps25, Tryz.results25, ↓V_convert, ↓V_bytes, stdl, cond_true, cond_false, Nat.reduceEqDiff, Nat.reduceAdd, Nat.reduceMul, Nat.reduceSub, Nat.reduceLT, Int.reduceEq, Int.reduceLT, Int.reduceLE, Int.reduceNeg, Nat.reduceLeDiff, if_true, if_false, ↓reduceIte, forall_const, implies_true, reduceCtorEq, forall_eq_or_imp, forall_eq, ne_eq, g1, g2, g3, hlt, inoCells]) (by simp (maxSteps := 2000000) only [↓ctl, evl, val, valP, own, app, wrt, tys, Tryz.ntmps25, Tryz.results25, ↓V_convert, ↓V_bytes, stdl, cond_true, cond_false, Nat.reduceEqDiff, Nat.reduceAdd, Nat.reduceMul, Nat.reduceSub, Nat.reduceLT, Int.reduceEq, Int.reduceLT, Int.reduceLE, Int.reduceNeg, Nat.reduceLeDiff, if_true, if_false, ↓reduceIte, forall_const, implies_true, reduceCtorEq, forall_eq_or_imp, forall_eq, ne_eq, inodeRow_e, ints_map, acls_map, inoCells]) (by decide) trivial ?_
      simp (maxSteps := 2000000) only [↓ctl, evl, val, valP, own, app, wrt, tys, Tryz.ntmps25, Tryz.results25, ↓V_convert, ↓V_bytes, stdl, cond_true, cond_false, Nat.reduceEqDiff, Nat.reduceAdd, Nat.reduceMul, Nat.reduceSub, Nat.reduceLT, Int.reduceEq, Int.reduceLT, Int.reduceLE, Int.reduceNeg, Nat.reduceLeDiff, if_true, if_false, ↓reduceIte, forall_const, implies_true, reduceCtorEq, forall_eq_or_imp, forall_eq, ne_eq]
      refine V_backI ⟨i + 1, by omega⟩ (by show _ - (i + 1) < _; omega) (weakI ?_)
      simp (maxSteps := 2000000) only [↓ctl, evl, val, valP, own, app, wrt, tys, Tryz.ntmps25, Tryz.results25, ↓V_convert, ↓V_bytes, stdl, cond_true, cond_false, Nat.reduceEqDiff, Nat.reduceAdd, Nat.reduceMul, Nat.reduceSub, Nat.reduceLT, Int.reduceEq, Int.reduceLT, Int.reduceLE, Int.reduceNeg, Nat.reduceLeDiff, if_true, if_false, ↓reduceIte, forall_const, implies_true, reduceCtorEq, forall_eq_or_imp, forall_eq, ne_eq]
      rw [wrap_id (by omega) (by omega)]
      exact ⟨rfl, congrArg (Chunk.row _ _) (fillR_set default inodeRow _ a i hlt)⟩
    · simp (maxSteps := 2000000) only [↓ctl, evl, val, valP, own, app, wrt, tys, Tryz.ntmps25, Tryz.results25, ↓V_convert, ↓V_bytes, stdl, cond_true, cond_false, Nat.reduceEqDiff, Nat.reduceAdd, Nat.reduceMul, Nat.reduceSub, Nat.reduceLT, Int.reduceEq, Int.reduceLT, Int.reduceLE, Int.reduceNeg, Nat.reduceLeDiff, if_true, if_false, ↓reduceIte, forall_const, implies_true, reduceCtorEq, forall_eq_or_imp, forall_eq, ne_eq, hlt]
      rw [fillR_end _ _ _ _ hlt]
def FS.sml (f : FS) : Prop := f.quotas.length ≤ 1048576 ∧ f.inodes.length ≤ 1048576 ∧ f.data.length ≤ 1048576 ∧ (∀ n ∈ f.inodes, n.sml)
theorem l_toFS (f : FS) (hb : f.sml) : Reads Go.Proofs.Tryz.prog 7 [fsAV f] (.agg [I f.tick, .sl 3 2 0 f.quotas.length, .sl 4 10 0 f.inodes.length, .sl 5 1 0 f.data.length])
    [(3, .row 78 2 (f.quotas.map quotaRow)), (4, .row 81 10 (f.inodes.map inodeRow)), (5, .row 9 1 (f.data.map strRow))] 6 := by
  refine reads_of_V mixed Go.Proofs.Tryz.call7 Go.Proofs.Tryz.func7 rfl (by rw [Go.Proofs.Tryz.ntmps7]; simp) ?_
  simp (maxSteps := 2000000) only [↓ctl, evl, val, valP, own, app, wrt, tys, Tryz.ntmps7, Tryz.results7, ↓V_convert, ↓V_bytes, stdl, cond_true, cond_false, Nat.reduceEqDiff, Nat.reduceAdd, Nat.reduceMul, Nat.reduceSub, Nat.reduceLT, Int.reduceEq, Int.reduceLT, Int.reduceLE, Int.reduceNeg, Nat.reduceLeDiff, if_true, if_false, ↓reduceIte, forall_const, implies_true, reduceCtorEq, forall_eq_or_imp, forall_eq, ne_eq, fsAV]
  refine V_callR mixed (cap := []) (l_toQuotaS f.quotas hb.1) (by simp (maxSteps := 2000000) only [↓ctl, evl, val, valP, own, app, wrt, tys, Tryz.ntmps7, Tryz.results7, ↓V_convert, ↓V_bytes, stdl, cond_true, cond_false, Nat.reduceEqDiff, Nat.reduceAdd, Nat.reduceMul, Nat.reduceSub, Nat.reduceLT, Int.reduceEq, Int.reduceLT, Int.reduceLE, Int.reduceNeg, Nat.reduceLeDiff, if_true, if_false, ↓reduceIte, forall_const, implies_true, reduceCtorEq, forall_eq_or_imp, forall_eq, ne_eq]) (by simp (maxSteps := 2000000) only [↓ctl, evl, val, valP, own, app, wrt, tys, Tryz.ntmps7, Tryz.results7, ↓V_convert, ↓V_bytes, stdl, cond_true, cond_false, Nat.reduceEqDiff, Nat.reduceAdd, Nat.reduceMul, Nat.reduceSub, Nat.reduceLT, Int.reduceEq, Int.reduceLT, Int.reduceLE, Int.reduceNeg, Nat.reduceLeDiff, if_true, if_false, ↓reduceIte, forall_const, implies_true, reduceCtorEq, forall_eq_or_imp, forall_eq, ne_eq]) (by simp (maxSteps := 2000000) only [↓ctl, evl, val, valP, own, app, wrt, tys, Tryz.ntmps7, Tryz.results7, ↓V_convert, ↓V_bytes, stdl, cond_true, cond_false, Nat.reduceEqDiff, Nat.reduceAdd, Nat.reduceMul, Nat.reduceSub, Nat.reduceLT, Int.reduceEq, Int.reduceLT, Int.reduceLE, Int.reduceNeg, Nat.reduceLeDiff, if_true, if_false, ↓reduceIte, forall_const, implies_true, reduceCtorEq, forall_eq_or_imp, forall_eq, ne_eq]) trivial ?_
  simp (maxSteps := 2000000) only [↓ctl, evl, val, valP, own, app, wrt, tys, Tryz.ntmps7, Tryz.results7, ↓V_convert, ↓V_bytes, stdl, cond_true, cond_false, Nat.reduceEqDiff, Nat.reduceAdd, Nat.reduceMul, Nat.reduceSub, Nat.reduceLT, Int.reduceEq, Int.reduceLT, Int.reduceLE, Int.reduceNeg, Nat.reduceLeDiff, if_true, if_false, ↓reduceIte, forall_const, implies_true, reduceCtorEq, forall_eq_or_imp, forall_eq, ne_eq]
  refine V_callR mixed (cap := []) (l_toInodeS f.inodes hb.2.1 hb.2.2.2) (by simp (maxSteps := 2000000) only [↓ctl, evl, val, valP, own, app, wrt, tys, Tryz.ntmps7, Tryz.results7, ↓V_convert, ↓V_bytes, stdl, cond_true, cond_false, Nat.reduceEqDiff, Nat.reduceAdd, Nat.reduceMul, Nat.reduceSub, Nat.reduceLT, Int.reduceEq, Int.reduceLT, Int.reduceLE, Int.reduceNeg, Nat.reduceLeDiff, if_true, if_false, ↓reduceIte, forall_const, implies_true, reduceCtorEq, forall_eq_or_imp, forall_eq, ne_eq]) (by simp (maxSteps := 2000000) only [↓ctl, evl, val, valP, own, app, wrt, tys, Tryz.ntmps7, Tryz.results7, ↓V_convert, ↓V_bytes, stdl, cond_true, cond_false, Nat.reduceEqDiff, Nat.reduceAdd, Nat.reduceMul, Nat.reduceSub, Nat.reduceLT, Int.reduceEq, Int.reduceLT, Int.reduceLE, Int.reduceNeg, Nat.reduceLeDiff, if_true, if_false, ↓reduceIte, forall_const, implies_true, reduceCtorEq, forall_eq_or_imp, forall_eq, ne_eq]) (by simp (maxSteps := 2000000) only [↓ctl, evl, val, valP, own, app, wrt, tys, Tryz.ntmps7, Tryz.results7, ↓V_convert, ↓V_bytes, stdl, cond_true, cond_false, Nat.reduceEqDiff, Nat.reduceAdd, Nat.reduceMul, Nat.reduceSub, Nat.reduceLT, Int.reduceEq, Int.reduceLT, Int.reduceLE, Int.reduceNeg, Nat.reduceLeDiff, if_true, if_false, ↓reduceIte, forall_const, implies_true, reduceCtorEq, forall_eq_or_imp, forall_eq, ne_eq]) trivial ?_
  simp (maxSteps := 2000000) only [↓ctl, evl, val, valP, own, app, wrt, tys, Tryz.ntmps7, Tryz.results7, ↓V_convert, ↓V_bytes, stdl, cond_true, cond_false, Nat.reduceEqDiff, Nat.reduceAdd, Nat.reduceMul, Nat.reduceSub, Nat.reduceLT, Int.reduceEq, Int.reduceLT, Int.reduceLE, Int.reduceNeg, Nat.reduceLeDiff, if_true, if_false, ↓reduceIte, forall_const, implies_true, reduceCtorEq, forall_eq_or_imp, forall_eq, ne_eq]
  refine V_callR mixed (cap := []) (l_toStringS f.data hb.2.2.1) (by simp (maxSteps := 2000000) only [↓ctl, evl, val, valP, own, app, wrt, tys, Tryz.ntmps7, Tryz.results7, ↓V_convert, ↓V_bytes, stdl, cond_true, cond_false, Nat.reduceEqDiff, Nat.reduceAdd, Nat.reduceMul, Nat.reduceSub, Nat.reduceLT, Int.reduceEq, Int.reduceLT, Int.reduceLE, Int.reduceNeg, Nat.reduceLeDiff, if_true, if_false, ↓reduceIte, forall_const, implies_true, reduceCtorEq, forall_eq_or_imp, forall_eq, ne_eq]) (by simp (maxSteps := 2000000) only [↓ctl, evl, val, valP, own, app, wrt, tys, Tryz.ntmps7, Tryz.results7, ↓V_convert, ↓V_bytes, stdl, cond_true, cond_false, Nat.reduceEqDiff, Nat.reduceAdd, Nat.reduceMul, Nat.reduceSub, Nat.reduceLT, Int.reduceEq, Int.reduceLT, Int.reduceLE, Int.reduceNeg, Nat.reduceLeDiff, if_true, if_false, ↓reduceIte, forall_const, implies_true, reduceCtorEq, forall_eq_or_imp, forall_eq, ne_eq]) (by simp (maxSteps := 2000000) only [↓ctl, evl, val, valP, own, app, wrt, tys, Tryz.ntmps7, Tryz.results7, ↓V_convert, ↓V_bytes, stdl, cond_true, cond_false, Nat.reduceEqDiff, Nat.reduceAdd, Nat.reduceMul, Nat.reduceSub, Nat.reduceLT, Int.reduceEq, Int.reduceLT, Int.reduceLE, Int.reduceNeg, Nat.reduceLeDiff, if_true, if_false, ↓reduceIte, forall_const, implies_true, reduceCtorEq, forall_eq_or_imp, forall_eq, ne_eq]) trivial ?_
  simp (maxSteps := 2000000) only [↓ctl, evl, val, valP, own, app, wrt, tys, Tryz.ntmps7, Tryz.results7, ↓V_convert, ↓V_bytes, stdl, cond_true, cond_false, Nat.reduceEqDiff, Nat.reduceAdd, Nat.reduceMul, Nat.reduceSub, Nat.reduceLT, Int.reduceEq, Int.reduceLT, Int.reduceLE, Int.reduceNeg, Nat.reduceLeDiff, if_true, if_false, ↓reduceIte, forall_const, implies_true, reduceCtorEq, forall_eq_or_imp, forall_eq, ne_eq]
/-! ### equality -/
theorem l_eqInode (a b : Inode) (ha : a.fits) (hb : b.fits) : Gives Go.Proofs.Tryz.prog 67 [inodeAV a, inodeAV b] (.bool (a == b)) := by
  refine gives_of_V mixed Go.Proofs.Tryz.call67 Go.Proofs.Tryz.func67 rfl (by rw [Go.Proofs.Tryz.ntmps67]; simp) ?_
  simp (maxSteps := 2000000) only [↓ctl, evl, val, valP, own, app, wrt, tys, Tryz.ntmps67, Tryz.results67, ↓V_convert, ↓V_bytes, stdl, cond_true, cond_false, Nat.reduceEqDiff, Nat.reduceAdd, Nat.reduceMul, Nat.reduceSub, Nat.reduceLT, Int.reduceEq, Int.reduceLT, Int.reduceLE, Int.reduceNeg, Nat.reduceLeDiff, if_true, if_false, ↓reduceIte, forall_const, implies_true, reduceCtorEq, forall_eq_or_imp, forall_eq, ne_eq, inodeAV]
  rw [inode_beq]
  refine ⟨fun h => by grind, fun h1 => ⟨fun h => by grind, fun h2 => ⟨fun h => by grind, fun h3 => ⟨fun h => by grind, fun h4 => ⟨fun h => by grind, fun h5 => ⟨fun h => by grind, fun h6 => ⟨fun h => by grind, fun h7 => ?_⟩⟩⟩⟩⟩⟩⟩
  refine V_callF mixed (cap := []) (fun _ => l_eqIntS a.blocks b.blocks ha.1 hb.1) (by simp (maxSteps := 2000000) (contextual := true) only [↓ctl, evl, val, valP, own, app, wrt, tys, Tryz.ntmps67, Tryz.results67, ↓V_convert, ↓V_bytes, stdl, cond_true, cond_false, Nat.reduceEqDiff, Nat.reduceAdd, Nat.reduceMul, Nat.reduceSub, Nat.reduceLT, Int.reduceEq, Int.reduceLT, Int.reduceLE, Int.reduceNeg, Nat.reduceLeDiff, if_true, if_false, ↓reduceIte, forall_const, implies_true, reduceCtorEq, forall_eq_or_imp, forall_eq, ne_eq]) (by simp (maxSteps := 2000000) (contextual := true) only [↓ctl, evl, val, valP, own, app, wrt, tys, Tryz.ntmps67, Tryz.results67, ↓V_convert, ↓V_bytes, stdl, cond_true, cond_false, Nat.reduceEqDiff, Nat.reduceAdd, Nat.reduceMul, Nat.reduceSub, Nat.reduceLT, Int.reduceEq, Int.reduceLT, Int.reduceLE, Int.reduceNeg, Nat.reduceLeDiff, if_true, if_false, ↓reduceIte, forall_const, implies_true, reduceCtorEq, forall_eq_or_imp, forall_eq, ne_eq]) (by simp (maxSteps := 2000000) (contextual := true) only [↓ctl, evl, val, valP, own, app, wrt, tys, Tryz.ntmps67, Tryz.results67, ↓V_convert, ↓V_bytes, stdl, cond_true, cond_false, Nat.reduceEqDiff, Nat.reduceAdd, Nat.reduceMul, Nat.reduceSub, Nat.reduceLT, Int.reduceEq, Int.reduceLT, Int.reduceLE, Int.reduceNeg, Nat.reduceLeDiff, if_true, if_false, ↓reduceIte, forall_const, implies_true, reduceCtorEq, forall_eq_or_imp, forall_eq, ne_eq]) trivial ?_
  simp (maxSteps := 2000000) only [↓ctl, evl, val, valP, own, app, wrt, tys, Tryz.ntmps67, Tryz.results67, ↓V_convert, ↓V_bytes, stdl, cond_true, cond_false, Nat.reduceEqDiff, Nat.reduceAdd, Nat.reduceMul, Nat.reduceSub, Nat.reduceLT, Int.reduceEq, Int.reduceLT, Int.reduceLE, Int.reduceNeg, Nat.reduceLeDiff, if_true, if_false, ↓reduceIte, forall_const, implies_true, reduceCtorEq, forall_eq_or_imp, forall_eq, ne_eq]
  refine ⟨fun h => by grind, fun h8 => ?_⟩
  refine V_callF mixed (cap := []) (fun _ => l_eqAclEntryS a.acl b.acl ha.2.1 hb.2.1) (by simp (maxSteps := 2000000) (contextual := true) only [↓ctl, evl, val, valP, own, app, wrt, tys, Tryz.ntmps67, Tryz.results67, ↓V_convert, ↓V_bytes, stdl, cond_true, cond_false, Nat.reduceEqDiff, Nat.reduceAdd, Nat.reduceMul, Nat.reduceSub, Nat.reduceLT, Int.reduceEq, Int.reduceLT, Int.reduceLE, Int.reduceNeg, Nat.reduceLeDiff, if_true, if_false, ↓reduceIte, forall_const, implies_true, reduceCtorEq, forall_eq_or_imp, forall_eq, ne_eq]) (by simp (maxSteps := 2000000) (contextual := true) only [↓ctl, evl, val, valP, own, app, wrt, tys, Tryz.ntmps67, Tryz.results67, ↓V_convert, ↓V_bytes, stdl, cond_true, cond_false, Nat.reduceEqDiff, Nat.reduceAdd, Nat.reduceMul, Nat.reduceSub, Nat.reduceLT, Int.reduceEq, Int.reduceLT, Int.reduceLE, Int.reduceNeg, Nat.reduceLeDiff, if_true, if_false, ↓reduceIte, forall_const, implies_true, reduceCtorEq, forall_eq_or_imp, forall_eq, ne_eq]) (by simp (maxSteps := 2000000) (contextual := true) only [↓ctl, evl, val, valP, own, app, wrt, tys, Tryz.ntmps67, Tryz.results67, ↓V_convert, ↓V_bytes, stdl, cond_true, cond_false, Nat.reduceEqDiff, Nat.reduceAdd, Nat.reduceMul, Nat.reduceSub, Nat.reduceLT, Int.reduceEq, Int.reduceLT, Int.reduceLE, Int.reduceNeg, Nat.reduceLeDiff, if_true, if_false, ↓reduceIte, forall_const, implies_true, reduceCtorEq, forall_eq_or_imp, forall_eq, ne_eq]) trivial ?_
  simp (maxSteps := 2000000) only [↓ctl, evl, val, valP, own, app, wrt, tys, Tryz.ntmps67, Tryz.results67, ↓V_convert, ↓V_bytes, stdl, cond_true, cond_false, Nat.reduceEqDiff, Nat.reduceAdd, Nat.reduceMul, Nat.reduceSub, Nat.reduceLT, Int.reduceEq, Int.reduceLT, Int.reduceLE, Int.reduceNeg, Nat.reduceLeDiff, if_true, if_false, ↓reduceIte, forall_const, implies_true, reduceCtorEq, forall_eq_or_imp, forall_eq, ne_eq]
  refine ⟨fun h => by grind, fun h9 => ?_⟩
  refine V_callF mixed (cap := []) (fun _ => l_eqAclEntryS a.dflt b.dflt ha.2.2 hb.2.2) (by simp (maxSteps := 2000000) (contextual := true) only [↓ctl, evl, val, valP, own, app, wrt, tys, Tryz.ntmps67, Tryz.results67, ↓V_convert, ↓V_bytes, stdl, cond_true, cond_false, Nat.reduceEqDiff, Nat.reduceAdd, Nat.reduceMul, Nat.reduceSub, Nat.reduceLT, Int.reduceEq, Int.reduceLT, Int.reduceLE, Int.reduceNeg, Nat.reduceLeDiff, if_true, if_false, ↓reduceIte, forall_const, implies_true, reduceCtorEq, forall_eq_or_imp, forall_eq, ne_eq]) (by simp (maxSteps := 2000000) (contextual := true) only [↓ctl, evl, val, valP, own, app, wrt, tys, Tryz.ntmps67, Tryz.results67, ↓V_convert, ↓V_bytes, stdl, cond_true, cond_false, Nat.reduceEqDiff, Nat.reduceAdd, Nat.reduceMul, Nat.reduceSub, Nat.reduceLT, Int.reduceEq, Int.reduceLT, Int.reduceLE, Int.reduceNeg, Nat.reduceLeDiff, if_true, if_false, ↓reduceIte, forall_const, implies_true, reduceCtorEq, forall_eq_or_imp, forall_eq, ne_eq]) (by simp (maxSteps := 2000000) (contextual := true) only [↓ctl, evl, val, valP, own, app, wrt, tys, Tryz.ntmps67, Tryz.results67, ↓V_convert, ↓V_bytes, stdl, cond_true, cond_false, Nat.reduceEqDiff, Nat.reduceAdd, Nat.reduceMul, Nat.reduceSub, Nat.reduceLT, Int.reduceEq, Int.reduceLT, Int.reduceLE, Int.reduceNeg, Nat.reduceLeDiff, if_true, if_false, ↓reduceIte, forall_const, implies_true, reduceCtorEq, forall_eq_or_imp, forall_eq, ne_eq]) trivial ?_
  simp (maxSteps := 2000000) only [↓ctl, evl, val, valP, own, app, wrt, tys, Tryz.ntmps67, Tryz.results67, ↓V_convert, ↓V_bytes, stdl, cond_true, cond_false, Nat.reduceEqDiff, Nat.reduceAdd, Nat.reduceMul, Nat.reduceSub, Nat.reduceLT, Int.reduceEq, Int.reduceLT, Int.reduceLE, Int.reduceNeg, Nat.reduceLeDiff, if_true, if_false, ↓reduceIte, forall_const, implies_true, reduceCtorEq, forall_eq_or_imp, forall_eq, ne_eq]
  refine ⟨fun h => by grind, fun h10 => by grind⟩
theorem l_eqInodeS (a b : List Inode) (ha : a.length ≤ 1099511627776) (hb : b.length ≤ 1099511627776) (hfa : ∀ n ∈ a, n.fits) (hfb : ∀ n ∈ b, n.fits) : Gives Go.Proofs.Tryz.prog 31 [.rd 10 (a.map inodeRow), .rd 10 (b.map inodeRow)] (.bool (a == b)) := by
  refine gives_of_V mixed Go.Proofs.Tryz.call31 Go.Proofs.Tryz.func31 rfl (by rw [Go.Proofs.Tryz.ntmps31]; simp) ?_
  simp (maxSteps := 2000000) only [↓ctl, evl, val, valP, own, app, wrt, tys, Tryz.ntmps31, Tryz.results31, ↓V_convert, ↓V_bytes, stdl, cond_true, cond_false, Nat.reduceEqDiff, Nat.reduceAdd, Nat.reduceMul, Nat.reduceSub, Nat.reduceLT, Int.reduceEq, Int.reduceLT, Int.reduceLE, Int.reduceNeg, Nat.reduceLeDiff, if_true, if_false, ↓reduceIte, forall_const, implies_true, reduceCtorEq, forall_eq_or_imp, forall_eq, ne_eq]
  refine ⟨fun h => ?_, fun h => ?_⟩
  · have : a.length ≠ b.length := by omega
    symm; simp only [beq_eq_false_iff_ne]; intro e; exact this (by rw [e])
  have hl : a.length = b.length := by omega
  refine V_loopI mixed (ι := {i : Nat // i ≤ a.length ∧ (a == b) = (a.drop i == b.drop i)}) (fun i => ⟨[(0, true, .rd 10 (a.map inodeRow)), (1, true, .rd 10 (b.map inodeRow)), (5, true, I i.1)], [], 0, 27⟩) (fun i => a.length - i.1)  ⟨0, by simp⟩ ?_ ?_ ?_
  · refine weakI ?_
    simp (maxSteps := 2000000) only [↓ctl, evl, val, valP, own, app, wrt, tys, Tryz.ntmps31, Tryz.results31, ↓V_convert, ↓V_bytes, stdl, cond_true, cond_false, Nat.reduceEqDiff, Nat.reduceAdd, Nat.reduceMul, Nat.reduceSub, Nat.reduceLT, Int.reduceEq, Int.reduceLT, Int.reduceLE, Int.reduceNeg, Nat.reduceLeDiff, if_true, if_false, ↓reduceIte, forall_const, implies_true, reduceCtorEq, forall_eq_or_imp, forall_eq, ne_eq]
    rfl
  · trivial
  · rintro ⟨i, hi, hx⟩
    by_cases hge : a.length ≤ i
    · have hlt : ¬ i < a.length := by omega
      simp (maxSteps := 2000000) only [↓ctl, evl, val, valP, own, app, wrt, tys, Tryz.ntmps31, Tryz.results31, ↓V_convert, ↓V_bytes, stdl, cond_true, cond_false, Nat.reduceEqDiff, Nat.reduceAdd, Nat.reduceMul, Nat.reduceSub, Nat.reduceLT, Int.reduceEq, Int.reduceLT, Int.reduceLE, Int.reduceNeg, Nat.reduceLeDiff, if_true, if_false, ↓reduceIte, forall_const, implies_true, reduceCtorEq, forall_eq_or_imp, forall_eq, ne_eq, hlt]
      rw [hx, drop_end _ _ hlt, drop_end _ _ (by omega)]; rfl
    have hlt : i < a.length := by omega
    have hma := hfa _ (show a.getD i default ∈ a by rw [getD_get a i _ hlt]; exact List.getElem_mem hlt)
    have hmb := hfb _ (show b.getD i default ∈ b by rw [getD_get b i _ (by omega)]; exact List.getElem_mem (by omega))
    simp (maxSteps := 2000000) only [↓ctl, evl, val, valP, own, app, wrt, tys, Tryz.ntmps31, Tryz.results31, ↓V_convert, ↓V_bytes, stdl, cond_true, cond_false, Nat.reduceEqDiff, Nat.reduceAdd, Nat.reduceMul, Nat.reduceSub, Nat.reduceLT, Int.reduceEq, Int.reduceLT, Int.reduceLE, Int.reduceNeg, Nat.reduceLeDiff, if_true, if_false, ↓reduceIte, forall_const, implies_true, reduceCtorEq, forall_eq_or_imp, forall_eq, ne_eq, ← hl, hlt, inodeRow_e, ints_map, acls_map]
    refine ⟨by kernel_rfl, ?_⟩
    refine V_callF mixed (cap := []) (fun _ => l_eqInode (a.getD i default) (b.getD i default) hma hmb) (by simp (maxSteps := 2000000) only [↓ctl, evl, val, valP, own, app, wrt, tys, Tryz.ntmps31, Tryz.results31, ↓V_convert, ↓V_bytes, stdl, cond_true, cond_false, Nat.reduceEqDiff, Nat.reduceAdd, Nat.reduceMul, Nat.reduceSub, Nat.reduceLT, Int.reduceEq, Int.reduceLT, Int.reduceLE, Int.reduceNeg, Nat.reduceLeDiff, if_true, if_false, ↓reduceIte, forall_const, implies_true, reduceCtorEq, forall_eq_or_imp, forall_eq, ne_eq, inodeAV, ints_map, acls_map, ← hl, hlt]) (by simp (maxSteps := 2000000) only [↓ctl, evl, val, valP, own, app, wrt, tys, Tryz.ntmps31, Tryz.results31, ↓V_convert, ↓V_bytes, stdl, cond_true, cond_false, Nat.reduceEqDiff, Nat.reduceAdd, Nat.reduceMul, Nat.reduceSub, Nat.reduceLT, Int.reduceEq, Int.reduceLT, Int.reduceLE, Int.reduceNeg, Nat.reduceLeDiff, if_true, if_false, ↓reduceIte, forall_const, implies_true, reduceCtorEq, forall_eq_or_imp, forall_eq, ne_eq]) (by simp (maxSteps := 2000000) only [↓ctl, evl, val, valP, own, app, wrt, tys, Tryz.ntmps31, Tryz.results31, ↓V_convert, ↓V_bytes, stdl, cond_true, cond_false, Nat.reduceEqDiff, Nat.reduceAdd, Nat.reduceMul, Nat.reduceSub, Nat.reduceLT, Int.reduceEq, Int.reduceLT, Int.reduceLE, Int.reduceNeg, Nat.reduceLeDiff, if_true, if_false, ↓reduceIte, forall_const, implies_true, reduceCtorEq, forall_eq_or_imp, forall_eq, ne_eq]) trivial ?_
    simp (maxSteps := 2000000) only [↓ctl, evl, val, valP, own, app, wrt, tys, Tryz.ntmps31, Tryz.results31, ↓V_convert, ↓V_bytes, stdl, cond_true, cond_false, Nat.reduceEqDiff, Nat.reduceAdd, Nat.reduceMul, Nat.reduceSub, Nat.reduceLT, Int.reduceEq, Int.reduceLT, Int.reduceLE, Int.reduceNeg, Nat.reduceLeDiff, if_true, if_false, ↓reduceIte, forall_const, implies_true, reduceCtorEq, forall_eq_or_imp, forall_eq, ne_eq, ← hl, hlt]
    refine ⟨fun h0 => ?_, fun h0 => V_backI ⟨i + 1, by omega, ?_⟩ (by show _ - (i + 1) < _; omega) (weakI ?_)⟩
    · rw [hx, eq_drop default hl hlt]; grind
    · rw [hx, eq_drop default hl hlt]; grind
    · simp (maxSteps := 2000000) only [↓ctl, evl, val, valP, own, app, wrt, tys, Tryz.ntmps31, Tryz.results31, ↓V_convert, ↓V_bytes, stdl, cond_true, cond_false, Nat.reduceEqDiff, Nat.reduceAdd, Nat.reduceMul, Nat.reduceSub, Nat.reduceLT, Int.reduceEq, Int.reduceLT, Int.reduceLE, Int.reduceNeg, Nat.reduceLeDiff, if_true, if_false, ↓reduceIte, forall_const, implies_true, reduceCtorEq, forall_eq_or_imp, forall_eq, ne_eq]
      rw [wrap_id (by omega) (by omega)]
      rfl
theorem fs_beq (a b : FS) : (a == b) = (a.tick == b.tick && a.quotas == b.quotas && a.inodes == b.inodes && a.data == b.data) := by
  cases a; cases b; grind
def FS.fits (f : FS) : Prop := f.quotas.length ≤ 1099511627776 ∧ f.inodes.length ≤ 1099511627776 ∧ f.data.length ≤ 1099511627776 ∧ (∀ n ∈ f.inodes, n.fits)
theorem l_eqFS (a b : FS) (ha : a.fits) (hb : b.fits) : Gives Go.Proofs.Tryz.prog 10 [fsAV a, fsAV b] (.bool (a == b)) := by
  refine gives_of_V mixed Go.Proofs.Tryz.call10 Go.Proofs.Tryz.func10 rfl (by rw [Go.Proofs.Tryz.ntmps10]; simp) ?_
  simp (maxSteps := 2000000) only [↓ctl, evl, val, valP, own, app, wrt, tys, Tryz.ntmps10, Tryz.results10, ↓V_convert, ↓V_bytes, stdl, cond_true, cond_false, Nat.reduceEqDiff, Nat.reduceAdd, Nat.reduceMul, Nat.reduceSub, Nat.reduceLT, Int.reduceEq, Int.reduceLT, Int.reduceLE, Int.reduceNeg, Nat.reduceLeDiff, if_true, if_false, ↓reduceIte, forall_const, implies_true, reduceCtorEq, forall_eq_or_imp, forall_eq, ne_eq, fsAV]
  rw [fs_beq]
  refine ⟨fun h => by grind, fun h1 => ?_⟩
  refine V_callF mixed (cap := []) (fun _ => l_eqQuotaS a.quotas b.quotas ha.1 hb.1) (by simp (maxSteps := 2000000) (contextual := true) only [↓ctl, evl, val, valP, own, app, wrt, tys, Tryz.ntmps10, Tryz.results10, ↓V_convert, ↓V_bytes, stdl, cond_true, cond_false, Nat.reduceEqDiff, Nat.reduceAdd, Nat.reduceMul, Nat.reduceSub, Nat.reduceLT, Int.reduceEq, Int.reduceLT, Int.reduceLE, Int.reduceNeg, Nat.reduceLeDiff, if_true, if_false, ↓reduceIte, forall_const, implies_true, reduceCtorEq, forall_eq_or_imp, forall_eq, ne_eq]) (by simp (maxSteps := 2000000) (contextual := true) only [↓ctl, evl, val, valP, own, app, wrt, tys, Tryz.ntmps10, Tryz.results10, ↓V_convert, ↓V_bytes, stdl, cond_true, cond_false, Nat.reduceEqDiff, Nat.reduceAdd, Nat.reduceMul, Nat.reduceSub, Nat.reduceLT, Int.reduceEq, Int.reduceLT, Int.reduceLE, Int.reduceNeg, Nat.reduceLeDiff, if_true, if_false, ↓reduceIte, forall_const, implies_true, reduceCtorEq, forall_eq_or_imp, forall_eq, ne_eq]) (by simp (maxSteps := 2000000) (contextual := true) only [↓ctl, evl, val, valP, own, app, wrt, tys, Tryz.ntmps10, Tryz.results10, ↓V_convert, ↓V_bytes, stdl, cond_true, cond_false, Nat.reduceEqDiff, Nat.reduceAdd, Nat.reduceMul, Nat.reduceSub, Nat.reduceLT, Int.reduceEq, Int.reduceLT, Int.reduceLE, Int.reduceNeg, Nat.reduceLeDiff, if_true, if_false, ↓reduceIte, forall_const, implies_true, reduceCtorEq, forall_eq_or_imp, forall_eq, ne_eq]) trivial ?_
  simp (maxSteps := 2000000) only [↓ctl, evl, val, valP, own, app, wrt, tys, Tryz.ntmps10, Tryz.results10, ↓V_convert, ↓V_bytes, stdl, cond_true, cond_false, Nat.reduceEqDiff, Nat.reduceAdd, Nat.reduceMul, Nat.reduceSub, Nat.reduceLT, Int.reduceEq, Int.reduceLT, Int.reduceLE, Int.reduceNeg, Nat.reduceLeDiff, if_true, if_false, ↓reduceIte, forall_const, implies_true, reduceCtorEq, forall_eq_or_imp, forall_eq, ne_eq]
  refine ⟨fun h => by grind, fun h2 => ?_⟩
  refine V_callF mixed (cap := []) (fun _ => l_eqInodeS a.inodes b.inodes ha.2.1 hb.2.1 ha.2.2.2 hb.2.2.2) (by simp (maxSteps := 2000000) (contextual := true) only [↓ctl, evl, val, valP, own, app, wrt, tys, Tryz.ntmps10, Tryz.results10, ↓V_convert, ↓V_bytes, stdl, cond_true, cond_false, Nat.reduceEqDiff, Nat.reduceAdd, Nat.reduceMul, Nat.reduceSub, Nat.reduceLT, Int.reduceEq, Int.reduceLT, Int.reduceLE, Int.reduceNeg, Nat.reduceLeDiff, if_true, if_false, ↓reduceIte, forall_const, implies_true, reduceCtorEq, forall_eq_or_imp, forall_eq, ne_eq]) (by simp (maxSteps := 2000000) (contextual := true) only [↓ctl, evl, val, valP, own, app, wrt, tys, Tryz.ntmps10, Tryz.results10, ↓V_convert, ↓V_bytes, stdl, cond_true, cond_false, Nat.reduceEqDiff, Nat.reduceAdd, Nat.reduceMul, Nat.reduceSub, Nat.reduceLT, Int.reduceEq, Int.reduceLT, Int.reduceLE, Int.reduceNeg, Nat.reduceLeDiff, if_true, if_false, ↓reduceIte, forall_const, implies_true, reduceCtorEq, forall_eq_or_imp, forall_eq, ne_eq]) (by simp (maxSteps := 2000000) (contextual := true) only [↓ctl, evl, val, valP, own, app, wrt, tys, Tryz.ntmps10, Tryz.results10, ↓V_convert, ↓V_bytes, stdl, cond_true, cond_false, Nat.reduceEqDiff, Nat.reduceAdd, Nat.reduceMul, Nat.reduceSub, Nat.reduceLT, Int.reduceEq, Int.reduceLT, Int.reduceLE, Int.reduceNeg, Nat.reduceLeDiff, if_true, if_false, ↓reduceIte, forall_const, implies_true, reduceCtorEq, forall_eq_or_imp, forall_eq, ne_eq]) trivial ?_
  simp (maxSteps := 2000000) only [↓ctl, evl, val, valP, own, app, wrt, tys, Tryz.ntmps10, Tryz.results10, ↓V_convert, ↓V_bytes, stdl, cond_true, cond_false, Nat.reduceEqDiff, Nat.reduceAdd, Nat.reduceMul, Nat.reduceSub, Nat.reduceLT, Int.reduceEq, Int.reduceLT, Int.reduceLE, Int.reduceNeg, Nat.reduceLeDiff, if_true, if_false, ↓reduceIte, forall_const, implies_true, reduceCtorEq, forall_eq_or_imp, forall_eq, ne_eq]
  refine ⟨fun h => by grind, fun h3 => ?_⟩
  refine V_callF mixed (cap := []) (fun _ => l_eqStringS a.data b.data ha.2.2.1 hb.2.2.1) (by simp (maxSteps := 2000000) (contextual := true) only [↓ctl, evl, val, valP, own, app, wrt, tys, Tryz.ntmps10, Tryz.results10, ↓V_convert, ↓V_bytes, stdl, cond_true, cond_false, Nat.reduceEqDiff, Nat.reduceAdd, Nat.reduceMul, Nat.reduceSub, Nat.reduceLT, Int.reduceEq, Int.reduceLT, Int.reduceLE, Int.reduceNeg, Nat.reduceLeDiff, if_true, if_false, ↓reduceIte, forall_const, implies_true, reduceCtorEq, forall_eq_or_imp, forall_eq, ne_eq]) (by simp (maxSteps := 2000000) (contextual := true) only [↓ctl, evl, val, valP, own, app, wrt, tys, Tryz.ntmps10, Tryz.results10, ↓V_convert, ↓V_bytes, stdl, cond_true, cond_false, Nat.reduceEqDiff, Nat.reduceAdd, Nat.reduceMul, Nat.reduceSub, Nat.reduceLT, Int.reduceEq, Int.reduceLT, Int.reduceLE, Int.reduceNeg, Nat.reduceLeDiff, if_true, if_false, ↓reduceIte, forall_const, implies_true, reduceCtorEq, forall_eq_or_imp, forall_eq, ne_eq]) (by simp (maxSteps := 2000000) (contextual := true) only [↓ctl, evl, val, valP, own, app, wrt, tys, Tryz.ntmps10, Tryz.results10, ↓V_convert, ↓V_bytes, stdl, cond_true, cond_false, Nat.reduceEqDiff, Nat.reduceAdd, Nat.reduceMul, Nat.reduceSub, Nat.reduceLT, Int.reduceEq, Int.reduceLT, Int.reduceLE, Int.reduceNeg, Nat.reduceLeDiff, if_true, if_false, ↓reduceIte, forall_const, implies_true, reduceCtorEq, forall_eq_or_imp, forall_eq, ne_eq]) trivial ?_
  simp (maxSteps := 2000000) only [↓ctl, evl, val, valP, own, app, wrt, tys, Tryz.ntmps10, Tryz.results10, ↓V_convert, ↓V_bytes, stdl, cond_true, cond_false, Nat.reduceEqDiff, Nat.reduceAdd, Nat.reduceMul, Nat.reduceSub, Nat.reduceLT, Int.reduceEq, Int.reduceLT, Int.reduceLE, Int.reduceNeg, Nat.reduceLeDiff, if_true, if_false, ↓reduceIte, forall_const, implies_true, reduceCtorEq, forall_eq_or_imp, forall_eq, ne_eq]
  refine ⟨fun h => by grind, fun h4 => by grind⟩
end Go.Proofs.YtobnbajakenbeaaGreat


/- Contracts: the law's own functions for inodes and file systems: marks, what is held.  -/
set_option linter.all false
set_option maxRecDepth 10000
set_option maxHeartbeats 4000000
namespace Go.Proofs.YtobnbajakenbeaaGreat
open Go Go.Eng

def cntN (n : Inode) : Nat := 7 + n.blocks.length + 3 * n.acl.length + 3 * n.dflt.length
def mkN (k : Nat) (n : Inode) : Inode := ⟨k, (k + 1 : Nat), (k + 2 : Nat), (k + 3 : Nat), (k + 4 : Nat), (k + 5 : Nat), (k + 6 : Nat), marks (mkI (k + 7)) n.blocks.length, marks (mkA (k + 7 + 1 * n.blocks.length)) n.acl.length, marks (mkA (k + 7 + 1 * n.blocks.length + 3 * n.acl.length)) n.dflt.length⟩
def mkNs : Nat → List Inode → List Inode
  | _, [] => []
  | k, n :: r => mkN k n :: mkNs (k + cntN n) r
def cntL (l : List Inode) : Nat := (l.map cntN).sum
theorem mkNs_length : ∀ (k : Nat) (l : List Inode), (mkNs k l).length = l.length
  | _, [] => rfl
  | k, n :: r => by simp [mkNs, mkNs_length (k + cntN n) r]
theorem cntL_take {l : List Inode} {i : Nat} (h : i < l.length) : cntL (l.take (i + 1)) = cntL (l.take i) + cntN (l.getD i default) := by
  rw [List.take_succ_eq_append_getElem h, getD_get l i _ h]; unfold cntL; rw [List.map_append, List.sum_append]; simp
theorem cntL_le {l : List Inode} (i : Nat) : cntL (l.take i) ≤ cntL l := by
  have e : cntL l = cntL (l.take i) + cntL (l.drop i) := by unfold cntL; rw [← List.sum_append, ← List.map_append, List.take_append_drop]
  omega
theorem mkNs_append : ∀ (l l' : List Inode) (k : Nat), mkNs k (l ++ l') = mkNs k l ++ mkNs (k + cntL l) l'
  | [], _, k => by simp [mkNs, cntL]
  | n :: r, l', k => by simp [mkNs, mkNs_append r l', cntL, Nat.add_assoc]
/-- The first i inodes are marked. -/
def markN (k : Nat) (l : List Inode) (i : Nat) : List (List Cell) := (mkNs k (l.take i) ++ l.drop i).map inodeRow
theorem markN_zero (k : Nat) (l : List Inode) : l.map inodeRow = markN k l 0 := by simp [markN, mkNs]
theorem markN_length (k : Nat) (l : List Inode) (i : Nat) : (markN k l i).length = l.length := by
  simp [markN, mkNs_length]; omega
theorem markN_getD (k : Nat) (l : List Inode) (i : Nat) (h : i < l.length) : (markN k l i).getD i [] = inodeRow (l.getD i default) := by
  unfold markN
  have hl : (mkNs k (l.take i)).length = i := by rw [mkNs_length]; simp; omega
  rw [List.getD_eq_getElem?_getD, List.getElem?_map, List.getElem?_append_right (by omega), hl, Nat.sub_self, List.getElem?_drop, Nat.add_zero, List.getElem?_eq_getElem h, getD_get l i _ h]; rfl
theorem markN_set (k : Nat) (l : List Inode) (i : Nat) (h : i < l.length) : (markN k l i).set i (inodeRow (mkN (k + cntL (l.take i)) (l.getD i default))) = markN k l (i + 1) := by
  unfold markN
  have hl : (mkNs k (l.take i)).length = i := by rw [mkNs_length]; simp; omega
  rw [← List.map_set, List.set_append_right _ _ (by omega), hl, Nat.sub_self, List.drop_eq_getElem_cons h, List.set_cons_zero, List.take_succ_eq_append_getElem h, mkNs_append]
  rw [getD_get l i _ h]; simp [mkNs]
theorem markN_end (k : Nat) (l : List Inode) : markN k l l.length = (mkNs k l).map inodeRow := by simp [markN]
/-- An inode's row whose fields are marked, with these nested slices. -/
def mkRow (q : Nat) (b c d : List (List Value)) : List Cell := [.v (.int .i64 (q : Nat)), .v (.int .i64 (q + 1 : Nat)), .v (.int .i64 (q + 2 : Nat)), .v (.int .i64 (q + 3 : Nat)), .v (.int .i64 (q + 4 : Nat)), .v (.int .i64 (q + 5 : Nat)), .v (.int .i64 (q + 6 : Nat)), .s 3 1 b, .s 130 3 c, .s 130 3 d]
theorem mkRow_e (q : Nat) (b c d : List (List Value)) : mkRow q b c d = [.v (.int .i64 (q : Nat)), .v (.int .i64 (q + 1 : Nat)), .v (.int .i64 (q + 2 : Nat)), .v (.int .i64 (q + 3 : Nat)), .v (.int .i64 (q + 4 : Nat)), .v (.int .i64 (q + 5 : Nat)), .v (.int .i64 (q + 6 : Nat)), .s 3 1 b, .s 130 3 c, .s 130 3 d] := rfl
theorem l_markIntS' (a : List Int) (k : Nat) (h1 : k + a.length ≤ 1099511627776) : Turns Go.Proofs.Tryz.prog 68 [.sl 0 1 0 a.length, I k] 1 [(0, .row 3 1 ((a.map intVals).map (·.map Cell.v)))] (.int .i64 (k + 1 * a.length : Nat)) [(0, .row 3 1 (((marks (mkI k) a.length).map intVals).map (·.map Cell.v)))] := by
  rw [ints_map, ints_map, Nat.one_mul]; exact l_markIntS a k h1
theorem l_markAclEntryS' (a : List Acl) (k : Nat) (h1 : k + 3 * a.length ≤ 1099511627776) : Turns Go.Proofs.Tryz.prog 69 [.sl 0 3 0 a.length, I k] 1 [(0, .row 130 3 ((a.map aclVals).map (·.map Cell.v)))] (.int .i64 (k + 3 * a.length : Nat)) [(0, .row 130 3 (((marks (mkA k) a.length).map aclVals).map (·.map Cell.v)))] := by
  rw [acls_map, acls_map]; exact l_markAclEntryS a k h1
theorem l_markInodeS (a : List Inode) (k : Nat) (h1 : k + cntL a ≤ 1099511627776) (ha : a.length ≤ 1099511627776) : Turns Go.Proofs.Tryz.prog 33 [.sl 0 10 0 a.length, I k] 1 [(0, .row 81 10 (a.map inodeRow))] (.int .i64 (k + cntL a : Nat)) [(0, .row 81 10 ((mkNs k a).map inodeRow))] := by
  refine turns_of_V mixed Go.Proofs.Tryz.call33 Go.Proofs.Tryz.func33 rfl (by rw [Go.Proofs.Tryz.ntmps33]; simp) (by simp (maxSteps := 2000000) only [↓ctl, evl, val, valP, own, app, wrt, tys, Tryz.ntmps33, Tryz.results33, ↓V_convert, ↓V_bytes, stdl, cond_true, cond_false, Nat.reduceEqDiff, Nat.reduceAdd, Nat.reduceMul, Nat.reduceSub, Nat.reduceLT, Int.reduceEq, Int.reduceLT, Int.reduceLE, Int.reduceNeg, Nat.reduceLeDiff, if_true, if_false, ↓reduceIte, forall_const, implies_true, reduceCtorEq, forall_eq_or_imp, forall_eq, ne_eq]) fun o z => ?_
  simp (maxSteps := 2000000) only [↓ctl, evl, val, valP, own, app, wrt, tys, Tryz.ntmps33, Tryz.results33, ↓V_convert, ↓V_bytes, stdl, cond_true, cond_false, Nat.reduceEqDiff, Nat.reduceAdd, Nat.reduceMul, Nat.reduceSub, Nat.reduceLT, Int.reduceEq, Int.reduceLT, Int.reduceLE, Int.reduceNeg, Nat.reduceLeDiff, if_true, if_false, ↓reduceIte, forall_const, implies_true, reduceCtorEq, forall_eq_or_imp, forall_eq, ne_eq]
  refine V_loopI mixed (ι := {i : Nat // i ≤ a.length}) (fun i => ⟨[(0, true, .sl 0 10 0 a.length), (1, true, I (k + cntL (a.take i.1) : Nat)), (5, true, I i.1)], [(0, .row 81 10 (markN k a i.1)), (1, .pin 0 (o 0) (z 0))], 2, 83⟩) (fun i => a.length - i.1)  ⟨0, by omega⟩ ?_ ?_ ?_
  · refine weakI ?_
    simp (maxSteps := 2000000) only [↓ctl, evl, val, valP, own, app, wrt, tys, Tryz.ntmps33, Tryz.results33, ↓V_convert, ↓V_bytes, stdl, cond_true, cond_false, Nat.reduceEqDiff, Nat.reduceAdd, Nat.reduceMul, Nat.reduceSub, Nat.reduceLT, Int.reduceEq, Int.reduceLT, Int.reduceLE, Int.reduceNeg, Nat.reduceLeDiff, if_true, if_false, ↓reduceIte, forall_const, implies_true, reduceCtorEq, forall_eq_or_imp, forall_eq, ne_eq]
    exact ⟨⟨rfl, rfl⟩, congrArg (Chunk.row _ _) (markN_zero ..)⟩
  · trivial
  · rintro ⟨i, hi⟩
    by_cases hlt : i < a.length
    · have g1 := markN_length k a i
      have g2 := markN_getD k a i hlt
      have g3 : ∀ x, ((markN k a i).set i x).getD i [] = x := fun x => getD_set_same _ _ _ _ (by rw [g1]; exact hlt)
      have hc := cntL_take hlt
      have hc2 : cntL (a.take (i + 1)) ≤ cntL a := cntL_le (i + 1)
      have hset := markN_set k a i hlt
      generalize hq : k + cntL (a.take i) = q at *
      have hb : q + cntN (a.getD i default) ≤ 1099511627776 := by omega
      have hb' := hb
      unfold cntN at hb'
      have w1 : IntKind.i64.wrap ((q : Int) + 1) = ((q + 1 : Nat) : Int) := by rw [wrap_id (by omega) (by omega)]; omega
      have w2 : IntKind.i64.wrap (((q + 1 : Nat) : Int) + 1) = ((q + 2 : Nat) : Int) := by rw [wrap_id (by omega) (by omega)]; omega
      have w3 : IntKind.i64.wrap (((q + 2 : Nat) : Int) + 1) = ((q + 3 : Nat) : Int) := by rw [wrap_id (by omega) (by omega)]; omega
      have w4 : IntKind.i64.wrap (((q + 3 : Nat) : Int) + 1) = ((q + 4 : Nat) : Int) := by rw [wrap_id (by omega) (by omega)]; omega
      have w5 : IntKind.i64.wrap (((q + 4 : Nat) : Int) + 1) = ((q + 5 : Nat) : Int) := by rw [wrap_id (by omega) (by omega)]; omega
      have w6 : IntKind.i64.wrap (((q + 5 : Nat) : Int) + 1) = ((q + 6 : Nat) : Int) := by rw [wrap_id (by omega) (by omega)]; omega
      have w7 : IntKind.i64.wrap (((q + 6 : Nat) : Int) + 1) = ((q + 7 : Nat) : Int) := by rw [wrap_id (by omega) (by omega)]; omega
      simp (maxSteps := 2000000) only [↓ctl, evl, val, valP, own, app, wrt, tys, Tryz.ntmps33, Tryz.results33, ↓V_convert, ↓V_bytes, stdl, cond_true, cond_false, Nat.reduceEqDiff, Nat.reduceAdd, Nat.reduceMul, Nat.reduceSub, Nat.reduceLT, Int.reduceEq, Int.reduceLT, Int.reduceLE, Int.reduceNeg, Nat.reduceLeDiff, if_true, if_false, ↓reduceIte, forall_const, implies_true, reduceCtorEq, forall_eq_or_imp, forall_eq, ne_eq, hlt, g1, g2, g3, List.set_set, inodeRow_e, w1, w2, w3, w4, w5, w6, w7]
      have m1 : ((marks (mkI (q + 7)) (a.getD i default).blocks.length).map intVals).length = ((a.getD i default).blocks.map intVals).length := by simp [marks_length]
      have m2 : ((marks (mkA (q + 7 + 1 * (a.getD i default).blocks.length)) (a.getD i default).acl.length).map aclVals).length = ((a.getD i default).acl.map aclVals).length := by simp [marks_length]
      have m3 : ((marks (mkA (q + 7 + 1 * (a.getD i default).blocks.length + 3 * (a.getD i default).acl.length)) (a.getD i default).dflt.length).map aclVals).length = ((a.getD i default).dflt.map aclVals).length := by simp [marks_length]
      refine V_callTs mixed (cap := []) (e0 := 81) (E0 := 10) (rows := (markN k a i).set i (mkRow q ((a.getD i default).blocks.map intVals) ((a.getD i default).acl.map aclVals) ((a.getD i default).dflt.map aclVals))) 0 i 7 (l_markIntS' (a.getD i default).blocks (q + 7) (by omega)) (by simp (maxSteps := 2000000) only [↓ctl, evl, val, valP, own, app, wrt, tys, Tryz.ntmps33, Tryz.results33, ↓V_convert, ↓V_bytes, stdl, cond_true, cond_false, Nat.reduceEqDiff, Nat.reduceAdd, Nat.reduceMul, Nat.reduceSub, Nat.reduceLT, Int.reduceEq, Int.reduceLT, Int.reduceLE, Int.reduceNeg, Nat.reduceLeDiff, if_true, if_false, ↓reduceIte, forall_const, implies_true, reduceCtorEq, forall_eq_or_imp, forall_eq, ne_eq, g1, g3, mkRow_e, hlt]) (by simp (maxSteps := 2000000) only [↓ctl, evl, val, valP, own, app, wrt, tys, Tryz.ntmps33, Tryz.results33, ↓V_convert, ↓V_bytes, stdl, cond_true, cond_false, Nat.reduceEqDiff, Nat.reduceAdd, Nat.reduceMul, Nat.reduceSub, Nat.reduceLT, Int.reduceEq, Int.reduceLT, Int.reduceLE, Int.reduceNeg, Nat.reduceLeDiff, if_true, if_false, ↓reduceIte, forall_const, implies_true, reduceCtorEq, forall_eq_or_imp, forall_eq, ne_eq, g1, g3, mkRow_e, hlt, List.getElem?_cons_succ, List.getElem?_cons_zero]) m1 (by simp (maxSteps := 2000000) only [↓ctl, evl, val, valP, own, app, wrt, tys, Tryz.ntmps33, Tryz.results33, ↓V_convert, ↓V_bytes, stdl, cond_true, cond_false, Nat.reduceEqDiff, Nat.reduceAdd, Nat.reduceMul, Nat.reduceSub, Nat.reduceLT, Int.reduceEq, Int.reduceLT, Int.reduceLE, Int.reduceNeg, Nat.reduceLeDiff, if_true, if_false, ↓reduceIte, forall_const, implies_true, reduceCtorEq, forall_eq_or_imp, forall_eq, ne_eq]) (by simp (maxSteps := 2000000) only [↓ctl, evl, val, valP, own, app, wrt, tys, Tryz.ntmps33, Tryz.results33, ↓V_convert, ↓V_bytes, stdl, cond_true, cond_false, Nat.reduceEqDiff, Nat.reduceAdd, Nat.reduceMul, Nat.reduceSub, Nat.reduceLT, Int.reduceEq, Int.reduceLT, Int.reduceLE, Int.reduceNeg, Nat.reduceLeDiff, if_true, if_false, ↓reduceIte, forall_const, implies_true, reduceCtorEq, forall_eq_or_imp, forall_eq, ne_eq]) trivial ?_
      simp (maxSteps := 2000000) only [↓ctl, evl, val, valP, own, app, wrt, tys, Tryz.ntmps33, Tryz.results33, ↓V_convert, ↓V_bytes, stdl, cond_true, cond_false, Nat.reduceEqDiff, Nat.reduceAdd, Nat.reduceMul, Nat.reduceSub, Nat.reduceLT, Int.reduceEq, Int.reduceLT, Int.reduceLE, Int.reduceNeg, Nat.reduceLeDiff, if_true, if_false, ↓reduceIte, forall_const, implies_true, reduceCtorEq, forall_eq_or_imp, forall_eq, ne_eq, hlt, g1, g3, List.set_set, mkRow_e]
      refine V_callTs mixed (cap := []) (e0 := 81) (E0 := 10) (rows := (markN k a i).set i (mkRow q ((marks (mkI (q + 7)) (a.getD i default).blocks.length).map intVals) ((a.getD i default).acl.map aclVals) ((a.getD i default).dflt.map aclVals))) 0 i 8 (l_markAclEntryS' (a.getD i default).acl (q + 7 + 1 * (a.getD i default).blocks.length) (by omega)) (by simp (maxSteps := 2000000) only [↓ctl, evl, val, valP, own, app, wrt, tys, Tryz.ntmps33, Tryz.results33, ↓V_convert, ↓V_bytes, stdl, cond_true, cond_false, Nat.reduceEqDiff, Nat.reduceAdd, Nat.reduceMul, Nat.reduceSub, Nat.reduceLT, Int.reduceEq, Int.reduceLT, Int.reduceLE, Int.reduceNeg, Nat.reduceLeDiff, if_true, if_false, ↓reduceIte, forall_const, implies_true, reduceCtorEq, forall_eq_or_imp, forall_eq, ne_eq, g1, g3, mkRow_e, hlt]) (by simp (maxSteps := 2000000) only [↓ctl, evl, val, valP, own, app, wrt, tys, Tryz.ntmps33, Tryz.results33, ↓V_convert, ↓V_bytes, stdl, cond_true, cond_false, Nat.reduceEqDiff, Nat.reduceAdd, Nat.reduceMul, Nat.reduceSub, Nat.reduceLT, Int.reduceEq, Int.reduceLT, Int.reduceLE, Int.reduceNeg, Nat.reduceLeDiff, if_true, if_false, ↓reduceIte, forall_const, implies_true, reduceCtorEq, forall_eq_or_imp, forall_eq, ne_eq, g1, g3, mkRow_e, hlt, List.getElem?_cons_succ, List.getElem?_cons_zero]) m2 (by simp (maxSteps := 2000000) only [↓ctl, evl, val, valP, own, app, wrt, tys, Tryz.ntmps33, Tryz.results33, ↓V_convert, ↓V_bytes, stdl, cond_true, cond_false, Nat.reduceEqDiff, Nat.reduceAdd, Nat.reduceMul, Nat.reduceSub, Nat.reduceLT, Int.reduceEq, Int.reduceLT, Int.reduceLE, Int.reduceNeg, Nat.reduceLeDiff, if_true, if_false, ↓reduceIte, forall_const, implies_true, reduceCtorEq, forall_eq_or_imp, forall_eq, ne_eq]) (by simp (maxSteps := 2000000) only [↓ctl, evl, val, valP, own, app, wrt, tys, Tryz.ntmps33, Tryz.results33, ↓V_convert, ↓V_bytes, stdl, cond_true, cond_false, Nat.reduceEqDiff, Nat.reduceAdd, Nat.reduceMul, Nat.reduceSub, Nat.reduceLT, Int.reduceEq, Int.reduceLT, Int.reduceLE, Int.reduceNeg, Nat.reduceLeDiff, if_true, if_false, ↓reduceIte, forall_const, implies_true, reduceCtorEq, forall_eq_or_imp, forall_eq, ne_eq]) trivial ?_
      simp (maxSteps := 2000000) only [↓ctl, evl, val, valP, own, app, wrt, tys, Tryz.ntmps33, Tryz.results33, ↓V_convert, ↓V_bytes, stdl, cond_true, cond_false, Nat.reduceEqDiff, Nat.reduceAdd, Nat.reduceMul, Nat.reduceSub, Nat.reduceLT, Int.reduceEq, Int.reduceLT, Int.reduceLE, Int.reduceNeg, Nat.reduceLeDiff, if_true, if_false, ↓reduceIte, forall_const, implies_true, reduceCtorEq, forall_eq_or_imp, forall_eq, ne_eq, hlt, g1, g3, List.set_set, mkRow_e]
      refine V_callTs mixed (cap := []) (e0 := 81) (E0 := 10) (rows := (markN k a i).set i (mkRow q ((marks (mkI (q + 7)) (a.getD i default).blocks.length).map intVals) ((marks (mkA (q + 7 + 1 * (a.getD i default).blocks.length)) (a.getD i default).acl.length).map aclVals) ((a.getD i default).dflt.map aclVals))) 0 i 9 (l_markAclEntryS' (a.getD i default).dflt (q + 7 + 1 * (a.getD i default).blocks.length + 3 * (a.getD i default).acl.length) (by omega)) (by simp (maxSteps := 2000000) only [↓ctl, evl, val, valP, own, app, wrt, tys, Tryz.ntmps33, Tryz.results33, ↓V_convert, ↓V_bytes, stdl, cond_true, cond_false, Nat.reduceEqDiff, Nat.reduceAdd, Nat.reduceMul, Nat.reduceSub, Nat.reduceLT, Int.reduceEq, Int.reduceLT, Int.reduceLE, Int.reduceNeg, Nat.reduceLeDiff, if_true, if_false, ↓reduceIte, forall_const, implies_true, reduceCtorEq, forall_eq_or_imp, forall_eq, ne_eq, g1, g3, mkRow_e, hlt]) (by simp (maxSteps := 2000000) only [↓ctl, evl, val, valP, own, app, wrt, tys, Tryz.ntmps33, Tryz.results33, ↓V_convert, ↓V_bytes, stdl, cond_true, cond_false, Nat.reduceEqDiff, Nat.reduceAdd, Nat.reduceMul, Nat.reduceSub, Nat.reduceLT, Int.reduceEq, Int.reduceLT, Int.reduceLE, Int.reduceNeg, Nat.reduceLeDiff, if_true, if_false, ↓reduceIte, forall_const, implies_true, reduceCtorEq, forall_eq_or_imp, forall_eq, ne_eq, g1, g3, mkRow_e, hlt, List.getElem?_cons_succ, List.getElem?_cons_zero]) m3 (by simp (maxSteps := 2000000) only [↓ctl, evl, val, valP, own, app, wrt, tys, Tryz.ntmps33, Tryz.results33, ↓V_convert, ↓V_bytes, stdl, cond_true, cond_false, Nat.reduceEqDiff, Nat.reduceAdd, Nat.reduceMul, Nat.reduceSub, Nat.reduceLT, Int.reduceEq, Int.reduceLT, Int.reduceLE, Int.reduceNeg, Nat.reduceLeDiff, if_true, if_false, ↓reduceIte, forall_const, implies_true, reduceCtorEq, forall_eq_or_imp, forall_eq, ne_eq]) (by simp (maxSteps := 2000000) only [↓ctl, evl, val, valP, own, app, wrt, tys, Tryz.ntmps33, Tryz.results33, ↓V_convert, ↓V_bytes, stdl, cond_true, cond_false, Nat.reduceEqDiff, Nat.reduceAdd, Nat.reduceMul, Nat.reduceSub, Nat.reduceLT, Int.reduceEq, Int.reduceLT, Int.reduceLE, Int.reduceNeg, Nat.reduceLeDiff, if_true, if_false, ↓reduceIte, forall_const, implies_true, reduceCtorEq, forall_eq_or_imp, forall_eq, ne_eq]) trivial ?_
      simp (maxSteps := 2000000) only [↓ctl, evl, val, valP, own, app, wrt, tys, Tryz.ntmps33, Tryz.results33, ↓V_convert, ↓V_bytes, stdl, cond_true, cond_false, Nat.reduceEqDiff, Nat.reduceAdd, Nat.reduceMul, Nat.reduceSub, Nat.reduceLT, Int.reduceEq, Int.reduceLT, Int.reduceLE, Int.reduceNeg, Nat.reduceLeDiff, if_true, if_false, ↓reduceIte, forall_const, implies_true, reduceCtorEq, forall_eq_or_imp, forall_eq, ne_eq, hlt, g1, g3, List.set_set, mkRow_e]
      refine V_backI ⟨i + 1, by omega⟩ (by show _ - (i + 1) < _; omega) (weakI ?_)
      simp (maxSteps := 2000000) only [↓ctl, evl, val, valP, own, app, wrt, tys, Tryz.ntmps33, Tryz.results33, ↓V_convert, ↓V_bytes, stdl, cond_true, cond_false, Nat.reduceEqDiff, Nat.reduceAdd, Nat.reduceMul, Nat.reduceSub, Nat.reduceLT, Int.reduceEq, Int.reduceLT, Int.reduceLE, Int.reduceNeg, Nat.reduceLeDiff, if_true, if_false, ↓reduceIte, forall_const, implies_true, reduceCtorEq, forall_eq_or_imp, forall_eq, ne_eq]
      rw [wrap_id (by omega) (by omega)]
      refine ⟨⟨?_, rfl⟩, congrArg (Chunk.row _ _) (Eq.trans ?_ hset)⟩
      · rw [hc, ← Nat.add_assoc, hq]; unfold cntN; omega
      · rfl
    · have hn : i = a.length := by omega
      subst hn
      simp (maxSteps := 2000000) only [↓ctl, evl, val, valP, own, app, wrt, tys, Tryz.ntmps33, Tryz.results33, ↓V_convert, ↓V_bytes, stdl, cond_true, cond_false, Nat.reduceEqDiff, Nat.reduceAdd, Nat.reduceMul, Nat.reduceSub, Nat.reduceLT, Int.reduceEq, Int.reduceLT, Int.reduceLE, Int.reduceNeg, Nat.reduceLeDiff, if_true, if_false, ↓reduceIte, forall_const, implies_true, reduceCtorEq, forall_eq_or_imp, forall_eq, ne_eq, hlt]
      rw [List.take_length]
      exact ⟨rfl, congrArg (Chunk.row _ _) (markN_end k a)⟩
theorem l_markFS (f : FS) (k : Nat) (h0 : 0 < k) (h1 : k + 2 * f.quotas.length + cntL f.inodes + 1 * f.data.length ≤ 1099511627776) (ha : f.inodes.length ≤ 1099511627776) : Turns Go.Proofs.Tryz.prog 11 [.agg [I f.tick, .sl 0 2 0 f.quotas.length, .sl 1 10 0 f.inodes.length, .sl 2 1 0 f.data.length], I k] 3
    [(0, .row 78 2 (f.quotas.map quotaRow)), (1, .row 81 10 (f.inodes.map inodeRow)), (2, .row 9 1 (f.data.map strRow))] (.int .i64 (k + 2 * f.quotas.length + cntL f.inodes + 1 * f.data.length : Nat))
    [(0, .row 78 2 ((marks (mkQ k) f.quotas.length).map quotaRow)), (1, .row 81 10 ((mkNs (k + 2 * f.quotas.length) f.inodes).map inodeRow)), (2, .row 9 1 ((marks (mkS (k + 2 * f.quotas.length + cntL f.inodes)) f.data.length).map strRow))] := by
  refine turns_of_V mixed Go.Proofs.Tryz.call11 Go.Proofs.Tryz.func11 rfl (by rw [Go.Proofs.Tryz.ntmps11]; simp) (by simp (maxSteps := 2000000) only [↓ctl, evl, val, valP, own, app, wrt, tys, Tryz.ntmps11, Tryz.results11, ↓V_convert, ↓V_bytes, stdl, cond_true, cond_false, Nat.reduceEqDiff, Nat.reduceAdd, Nat.reduceMul, Nat.reduceSub, Nat.reduceLT, Int.reduceEq, Int.reduceLT, Int.reduceLE, Int.reduceNeg, Nat.reduceLeDiff, if_true, if_false, ↓reduceIte, forall_const, implies_true, reduceCtorEq, forall_eq_or_imp, forall_eq, ne_eq]) fun o z => ?_
  simp (maxSteps := 2000000) only [↓ctl, evl, val, valP, own, app, wrt, tys, Tryz.ntmps11, Tryz.results11, ↓V_convert, ↓V_bytes, stdl, cond_true, cond_false, Nat.reduceEqDiff, Nat.reduceAdd, Nat.reduceMul, Nat.reduceSub, Nat.reduceLT, Int.reduceEq, Int.reduceLT, Int.reduceLE, Int.reduceNeg, Nat.reduceLeDiff, if_true, if_false, ↓reduceIte, forall_const, implies_true, reduceCtorEq, forall_eq_or_imp, forall_eq, ne_eq]
  refine V_callT mixed (cap := []) [0]  ( l_markQuotaS f.quotas k (by omega)) (by simp (maxSteps := 2000000) only [↓ctl, evl, val, valP, own, app, wrt, tys, Tryz.ntmps11, Tryz.results11, ↓V_convert, ↓V_bytes, stdl, cond_true, cond_false, Nat.reduceEqDiff, Nat.reduceAdd, Nat.reduceMul, Nat.reduceSub, Nat.reduceLT, Int.reduceEq, Int.reduceLT, Int.reduceLE, Int.reduceNeg, Nat.reduceLeDiff, if_true, if_false, ↓reduceIte, forall_const, implies_true, reduceCtorEq, forall_eq_or_imp, forall_eq, ne_eq]) (by decide) (by simp (maxSteps := 2000000) only [↓ctl, evl, val, valP, own, app, wrt, tys, Tryz.ntmps11, Tryz.results11, ↓V_convert, ↓V_bytes, stdl, cond_true, cond_false, Nat.reduceEqDiff, Nat.reduceAdd, Nat.reduceMul, Nat.reduceSub, Nat.reduceLT, Int.reduceEq, Int.reduceLT, Int.reduceLE, Int.reduceNeg, Nat.reduceLeDiff, if_true, if_false, ↓reduceIte, forall_const, implies_true, reduceCtorEq, forall_eq_or_imp, forall_eq, ne_eq]) (by simp (maxSteps := 2000000) only [↓ctl, evl, val, valP, own, app, wrt, tys, Tryz.ntmps11, Tryz.results11, ↓V_convert, ↓V_bytes, stdl, cond_true, cond_false, Nat.reduceEqDiff, Nat.reduceAdd, Nat.reduceMul, Nat.reduceSub, Nat.reduceLT, Int.reduceEq, Int.reduceLT, Int.reduceLE, Int.reduceNeg, Nat.reduceLeDiff, if_true, if_false, ↓reduceIte, forall_const, implies_true, reduceCtorEq, forall_eq_or_imp, forall_eq, ne_eq]) trivial ?_
  simp (maxSteps := 2000000) only [↓ctl, evl, val, valP, own, app, wrt, tys, Tryz.ntmps11, Tryz.results11, ↓V_convert, ↓V_bytes, stdl, cond_true, cond_false, Nat.reduceEqDiff, Nat.reduceAdd, Nat.reduceMul, Nat.reduceSub, Nat.reduceLT, Int.reduceEq, Int.reduceLT, Int.reduceLE, Int.reduceNeg, Nat.reduceLeDiff, if_true, if_false, ↓reduceIte, forall_const, implies_true, reduceCtorEq, forall_eq_or_imp, forall_eq, ne_eq]
  refine V_callT mixed (cap := []) [1]  ( l_markInodeS f.inodes (k + 2 * f.quotas.length) (by omega) (by omega)) (by simp (maxSteps := 2000000) only [↓ctl, evl, val, valP, own, app, wrt, tys, Tryz.ntmps11, Tryz.results11, ↓V_convert, ↓V_bytes, stdl, cond_true, cond_false, Nat.reduceEqDiff, Nat.reduceAdd, Nat.reduceMul, Nat.reduceSub, Nat.reduceLT, Int.reduceEq, Int.reduceLT, Int.reduceLE, Int.reduceNeg, Nat.reduceLeDiff, if_true, if_false, ↓reduceIte, forall_const, implies_true, reduceCtorEq, forall_eq_or_imp, forall_eq, ne_eq]) (by decide) (by simp (maxSteps := 2000000) only [↓ctl, evl, val, valP, own, app, wrt, tys, Tryz.ntmps11, Tryz.results11, ↓V_convert, ↓V_bytes, stdl, cond_true, cond_false, Nat.reduceEqDiff, Nat.reduceAdd, Nat.reduceMul, Nat.reduceSub, Nat.reduceLT, Int.reduceEq, Int.reduceLT, Int.reduceLE, Int.reduceNeg, Nat.reduceLeDiff, if_true, if_false, ↓reduceIte, forall_const, implies_true, reduceCtorEq, forall_eq_or_imp, forall_eq, ne_eq]) (by simp (maxSteps := 2000000) only [↓ctl, evl, val, valP, own, app, wrt, tys, Tryz.ntmps11, Tryz.results11, ↓V_convert, ↓V_bytes, stdl, cond_true, cond_false, Nat.reduceEqDiff, Nat.reduceAdd, Nat.reduceMul, Nat.reduceSub, Nat.reduceLT, Int.reduceEq, Int.reduceLT, Int.reduceLE, Int.reduceNeg, Nat.reduceLeDiff, if_true, if_false, ↓reduceIte, forall_const, implies_true, reduceCtorEq, forall_eq_or_imp, forall_eq, ne_eq]) trivial ?_
  simp (maxSteps := 2000000) only [↓ctl, evl, val, valP, own, app, wrt, tys, Tryz.ntmps11, Tryz.results11, ↓V_convert, ↓V_bytes, stdl, cond_true, cond_false, Nat.reduceEqDiff, Nat.reduceAdd, Nat.reduceMul, Nat.reduceSub, Nat.reduceLT, Int.reduceEq, Int.reduceLT, Int.reduceLE, Int.reduceNeg, Nat.reduceLeDiff, if_true, if_false, ↓reduceIte, forall_const, implies_true, reduceCtorEq, forall_eq_or_imp, forall_eq, ne_eq]
  refine V_callT mixed (cap := []) [2]  ( l_markStringS f.data (k + 2 * f.quotas.length + cntL f.inodes) (by omega) (by omega)) (by simp (maxSteps := 2000000) only [↓ctl, evl, val, valP, own, app, wrt, tys, Tryz.ntmps11, Tryz.results11, ↓V_convert, ↓V_bytes, stdl, cond_true, cond_false, Nat.reduceEqDiff, Nat.reduceAdd, Nat.reduceMul, Nat.reduceSub, Nat.reduceLT, Int.reduceEq, Int.reduceLT, Int.reduceLE, Int.reduceNeg, Nat.reduceLeDiff, if_true, if_false, ↓reduceIte, forall_const, implies_true, reduceCtorEq, forall_eq_or_imp, forall_eq, ne_eq]) (by decide) (by simp (maxSteps := 2000000) only [↓ctl, evl, val, valP, own, app, wrt, tys, Tryz.ntmps11, Tryz.results11, ↓V_convert, ↓V_bytes, stdl, cond_true, cond_false, Nat.reduceEqDiff, Nat.reduceAdd, Nat.reduceMul, Nat.reduceSub, Nat.reduceLT, Int.reduceEq, Int.reduceLT, Int.reduceLE, Int.reduceNeg, Nat.reduceLeDiff, if_true, if_false, ↓reduceIte, forall_const, implies_true, reduceCtorEq, forall_eq_or_imp, forall_eq, ne_eq]) (by simp (maxSteps := 2000000) only [↓ctl, evl, val, valP, own, app, wrt, tys, Tryz.ntmps11, Tryz.results11, ↓V_convert, ↓V_bytes, stdl, cond_true, cond_false, Nat.reduceEqDiff, Nat.reduceAdd, Nat.reduceMul, Nat.reduceSub, Nat.reduceLT, Int.reduceEq, Int.reduceLT, Int.reduceLE, Int.reduceNeg, Nat.reduceLeDiff, if_true, if_false, ↓reduceIte, forall_const, implies_true, reduceCtorEq, forall_eq_or_imp, forall_eq, ne_eq]) trivial ?_
  simp (maxSteps := 2000000) only [↓ctl, evl, val, valP, own, app, wrt, tys, Tryz.ntmps11, Tryz.results11, ↓V_convert, ↓V_bytes, stdl, cond_true, cond_false, Nat.reduceEqDiff, Nat.reduceAdd, Nat.reduceMul, Nat.reduceSub, Nat.reduceLT, Int.reduceEq, Int.reduceLT, Int.reduceLE, Int.reduceNeg, Nat.reduceLeDiff, if_true, if_false, ↓reduceIte, forall_const, implies_true, reduceCtorEq, forall_eq_or_imp, forall_eq, ne_eq]
end Go.Proofs.YtobnbajakenbeaaGreat


/- Contracts: the blocks in use, valid file systems: the reference's.  -/
set_option linter.all false
set_option maxRecDepth 10000
set_option maxHeartbeats 4000000
namespace Go.Proofs.YtobnbajakenbeaaGreat
open Go Go.Eng

def useB (uid : Int) (used : List Bool) (b : Int) : Option (List Bool) := if b = -1 then some used else if owner b = uid ∧ used.getD b.toNat default = false then some (used.set b.toNat true) else none
def useBs (uid : Int) : List Bool → List Int → Option (List Bool)
  | used, [] => some used
  | used, b :: r => (useB uid used b).bind fun u => useBs uid u r
def useNs : List Bool → List Inode → Option (List Bool)
  | used, [] => some used
  | used, n :: r => (useBs n.uid used n.blocks).bind fun u => useNs u r
def none0 : List Bool := List.replicate 56 false
theorem useBs_step {uid : Int} {used : List Bool} {l : List Int} {j : Nat} (h : j < l.length) : useBs uid used (l.drop j) = (useB uid used (l.getD j default)).bind fun u => useBs uid u (l.drop (j + 1)) := by
  rw [drop_getD default h]; rfl
theorem useNs_step {used : List Bool} {l : List Inode} {i : Nat} (h : i < l.length) : useNs used (l.drop i) = (useBs (l.getD i default).uid used (l.getD i default).blocks).bind fun u => useNs u (l.drop (i + 1)) := by
  rw [drop_getD default h]; rfl
theorem owner_in {b uid : Int} (h : owner b = uid) (h0 : 0 ≤ uid) : 0 ≤ b ∧ b < 56 := by
  unfold owner inR at h
  split at h
  · rename_i hb
    simp only [Bool.and_eq_true, decide_eq_true_eq] at hb
    omega
  · omega
theorem isInode_uid {n : Inode} (h : isInode n = true) : 0 ≤ n.uid := by
  unfold isInode at h
  split at h
  · have : n = default := by simpa using h
    subst this; decide
  · simp only [Bool.and_eq_true] at h
    obtain ⟨⟨⟨⟨h1, _⟩, _⟩, _⟩, _⟩ := h
    unfold inodeHead isUser inR at h1
    simp only [Bool.and_eq_true, decide_eq_true_eq] at h1
    omega
def resU : Option (List Bool) → AV
  | some _ => .tup [.sl 1 1 0 56, Bo true]
  | none => .tup [.v (.slice none 0 0), Bo false]
def heapU : Option (List Bool) → Heap
  | some u => [(1, .row 4 1 (u.map boolRow))]
  | none => []
theorem resU_some (u : List Bool) : resU (some u) = .tup [.sl 1 1 0 56, Bo true] := rfl
theorem resU_none : resU none = .tup [.v (.slice none 0 0), Bo false] := rfl
theorem heapU_some (u : List Bool) : heapU (some u) = [(1, .row 4 1 (u.map boolRow))] := rfl
theorem heapU_none : heapU none = [] := rfl
theorem d_l08Used (f : FS) (hv : ∀ n ∈ f.inodes, isInode n = true) (hi20 : f.inodes.length ≤ 1099511627776) (hb : ∀ n ∈ f.inodes, n.blocks.length ≤ 1099511627776) : Reads Go.Proofs.Tryz.prog 51 [fsAV f] (resU (useNs none0 f.inodes)) (heapU (useNs none0 f.inodes)) 2 := by
  refine reads_of_V mixed Go.Proofs.Tryz.call51 Go.Proofs.Tryz.func51 rfl (by rw [Go.Proofs.Tryz.ntmps51]; simp) ?_
  simp (maxSteps := 2000000) only [↓ctl, evl, val, valP, own, app, wrt, tys, Tryz.ntmps51, Tryz.results51, ↓V_convert, ↓V_bytes, stdl, cond_true, cond_false, Nat.reduceEqDiff, Nat.reduceAdd, Nat.reduceMul, Nat.reduceSub, Nat.reduceLT, Int.reduceEq, Int.reduceLT, Int.reduceLE, Int.reduceNeg, Nat.reduceLeDiff, if_true, if_false, ↓reduceIte, forall_const, implies_true, reduceCtorEq, forall_eq_or_imp, forall_eq, ne_eq, fsAV]
  have hrep : List.replicate 56 [Cell.v (.bool false)] = none0.map boolRow := by unfold none0; simp [boolRow]
  refine V_loopI mixed (ι := {p : Nat × List Bool // p.1 ≤ f.inodes.length ∧ p.2.length = 56 ∧ useNs none0 f.inodes = useNs p.2 (f.inodes.drop p.1)}) (fun p => ⟨[(1, true, .ptr 0 0 0 0), (4, true, .sl 1 1 0 56), (11, true, .rd 10 (f.inodes.map inodeRow)), (12, true, I f.inodes.length), (13, true, I p.1.1)], [(1, .row 4 1 (p.1.2.map boolRow)), (0, .box 35 [I f.tick, .rd 2 (f.quotas.map quotaRow), .rd 10 (f.inodes.map inodeRow), .rd 1 (f.data.map strRow)])], 2, 43⟩) (fun p => f.inodes.length - p.1.1) ⟨(0, none0), by simp [none0]⟩ ?_ ?_ ?_
  · refine weakI ?_
    simp (maxSteps := 2000000) only [↓ctl, evl, val, valP, own, app, wrt, tys, Tryz.ntmps51, Tryz.results51, ↓V_convert, ↓V_bytes, stdl, cond_true, cond_false, Nat.reduceEqDiff, Nat.reduceAdd, Nat.reduceMul, Nat.reduceSub, Nat.reduceLT, Int.reduceEq, Int.reduceLT, Int.reduceLE, Int.reduceNeg, Nat.reduceLeDiff, if_true, if_false, ↓reduceIte, forall_const, implies_true, reduceCtorEq, forall_eq_or_imp, forall_eq, ne_eq]
    exact ⟨⟨rfl, rfl⟩, congrArg (Chunk.row _ _) hrep⟩
  · trivial
  · rintro ⟨⟨i, used⟩, hi, hl, hx⟩
    simp only at hi hl hx
    by_cases hlt : i < f.inodes.length
    · have hm : f.inodes.getD i default ∈ f.inodes := by rw [getD_get _ i _ hlt]; exact List.getElem_mem hlt
      have hbl := hb _ hm
      have huid := isInode_uid (hv _ hm)
      have hst := useNs_step (used := used) hlt
      generalize hn : f.inodes.getD i default = n at *
      simp (maxSteps := 2000000) only [↓ctl, evl, val, valP, own, app, wrt, tys, Tryz.ntmps51, Tryz.results51, ↓V_convert, ↓V_bytes, stdl, cond_true, cond_false, Nat.reduceEqDiff, Nat.reduceAdd, Nat.reduceMul, Nat.reduceSub, Nat.reduceLT, Int.reduceEq, Int.reduceLT, Int.reduceLE, Int.reduceNeg, Nat.reduceLeDiff, if_true, if_false, ↓reduceIte, forall_const, implies_true, reduceCtorEq, forall_eq_or_imp, forall_eq, ne_eq, hlt, hn, inodeRow_e, ints_map, acls_map]
      refine V_loopI mixed (ι := {p : Nat × List Bool // p.1 ≤ n.blocks.length ∧ p.2.length = 56 ∧ useNs none0 f.inodes = (useBs n.uid p.2 (n.blocks.drop p.1)).bind fun u => useNs u (f.inodes.drop (i + 1))}) (fun p => ⟨[(1, true, .ptr 0 0 0 0), (4, true, .sl 1 1 0 56), (11, true, .rd 10 (f.inodes.map inodeRow)), (12, true, I f.inodes.length), (13, true, I i), (6, true, .ptr 2 0 0 0), (18, true, .rd 1 (n.blocks.map intRow)), (19, true, I n.blocks.length), (20, true, I p.1.1)], [(2, .box 81 [I n.kind, I n.mode, I n.uid, I n.gid, I n.links, I n.size, I n.tick, .rd 1 (n.blocks.map intRow), .rd 3 (n.acl.map aclRow), .rd 3 (n.dflt.map aclRow)]), (1, .row 4 1 (p.1.2.map boolRow)), (0, .box 35 [I f.tick, .rd 2 (f.quotas.map quotaRow), .rd 10 (f.inodes.map inodeRow), .rd 1 (f.data.map strRow)])], 3, 43⟩) (fun p => n.blocks.length - p.1.1) ⟨(0, used), by simp only [List.drop_zero]; exact ⟨by omega, hl, hx.trans hst⟩⟩ ?_ ?_ ?_
      · refine weakI ?_
        simp (maxSteps := 2000000) only [↓ctl, evl, val, valP, own, app, wrt, tys, Tryz.ntmps51, Tryz.results51, ↓V_convert, ↓V_bytes, stdl, cond_true, cond_false, Nat.reduceEqDiff, Nat.reduceAdd, Nat.reduceMul, Nat.reduceSub, Nat.reduceLT, Int.reduceEq, Int.reduceLT, Int.reduceLE, Int.reduceNeg, Nat.reduceLeDiff, if_true, if_false, ↓reduceIte, forall_const, implies_true, reduceCtorEq, forall_eq_or_imp, forall_eq, ne_eq]
        try rfl
      · trivial
      · rintro ⟨⟨j, us⟩, hj, hul, hy⟩
        simp only at hj hul hy
        by_cases hjl : j < n.blocks.length
        · have hbs := useBs_step (uid := n.uid) (used := us) hjl
          generalize hbb : n.blocks.getD j default = b at *
          by_cases hb1 : b = -1
          · subst hb1
            simp (maxSteps := 2000000) only [↓ctl, evl, val, valP, own, app, wrt, tys, Tryz.ntmps51, Tryz.results51, ↓V_convert, ↓V_bytes, stdl, cond_true, cond_false, Nat.reduceEqDiff, Nat.reduceAdd, Nat.reduceMul, Nat.reduceSub, Nat.reduceLT, Int.reduceEq, Int.reduceLT, Int.reduceLE, Int.reduceNeg, Nat.reduceLeDiff, if_true, if_false, ↓reduceIte, forall_const, implies_true, reduceCtorEq, forall_eq_or_imp, forall_eq, ne_eq, hjl, hbb]
            refine V_backI ⟨(j + 1, us), ?_⟩ (by show _ - (j + 1) < _; omega) (weakI ?_)
            · refine ⟨by simp only; omega, hul, ?_⟩
              rw [hy, hbs]; simp [useB]
            · simp (maxSteps := 2000000) only [↓ctl, evl, val, valP, own, app, wrt, tys, Tryz.ntmps51, Tryz.results51, ↓V_convert, ↓V_bytes, stdl, cond_true, cond_false, Nat.reduceEqDiff, Nat.reduceAdd, Nat.reduceMul, Nat.reduceSub, Nat.reduceLT, Int.reduceEq, Int.reduceLT, Int.reduceLE, Int.reduceNeg, Nat.reduceLeDiff, if_true, if_false, ↓reduceIte, forall_const, implies_true, reduceCtorEq, forall_eq_or_imp, forall_eq, ne_eq]
              rw [wrap_id (by omega) (by omega)]
              rfl
          · simp (maxSteps := 2000000) only [↓ctl, evl, val, valP, own, app, wrt, tys, Tryz.ntmps51, Tryz.results51, ↓V_convert, ↓V_bytes, stdl, cond_true, cond_false, Nat.reduceEqDiff, Nat.reduceAdd, Nat.reduceMul, Nat.reduceSub, Nat.reduceLT, Int.reduceEq, Int.reduceLT, Int.reduceLE, Int.reduceNeg, Nat.reduceLeDiff, if_true, if_false, ↓reduceIte, forall_const, implies_true, reduceCtorEq, forall_eq_or_imp, forall_eq, ne_eq, hjl, hbb, hb1]
            refine ⟨by kernel_rfl, ?_⟩
            refine V_callF mixed (cap := []) (fun _ => d_BlockOwner b) (by simp (maxSteps := 2000000) (contextual := true) only [↓ctl, evl, val, valP, own, app, wrt, tys, Tryz.ntmps51, Tryz.results51, ↓V_convert, ↓V_bytes, stdl, cond_true, cond_false, Nat.reduceEqDiff, Nat.reduceAdd, Nat.reduceMul, Nat.reduceSub, Nat.reduceLT, Int.reduceEq, Int.reduceLT, Int.reduceLE, Int.reduceNeg, Nat.reduceLeDiff, if_true, if_false, ↓reduceIte, forall_const, implies_true, reduceCtorEq, forall_eq_or_imp, forall_eq, ne_eq]) (by simp (maxSteps := 2000000) (contextual := true) only [↓ctl, evl, val, valP, own, app, wrt, tys, Tryz.ntmps51, Tryz.results51, ↓V_convert, ↓V_bytes, stdl, cond_true, cond_false, Nat.reduceEqDiff, Nat.reduceAdd, Nat.reduceMul, Nat.reduceSub, Nat.reduceLT, Int.reduceEq, Int.reduceLT, Int.reduceLE, Int.reduceNeg, Nat.reduceLeDiff, if_true, if_false, ↓reduceIte, forall_const, implies_true, reduceCtorEq, forall_eq_or_imp, forall_eq, ne_eq]) (by simp (maxSteps := 2000000) (contextual := true) only [↓ctl, evl, val, valP, own, app, wrt, tys, Tryz.ntmps51, Tryz.results51, ↓V_convert, ↓V_bytes, stdl, cond_true, cond_false, Nat.reduceEqDiff, Nat.reduceAdd, Nat.reduceMul, Nat.reduceSub, Nat.reduceLT, Int.reduceEq, Int.reduceLT, Int.reduceLE, Int.reduceNeg, Nat.reduceLeDiff, if_true, if_false, ↓reduceIte, forall_const, implies_true, reduceCtorEq, forall_eq_or_imp, forall_eq, ne_eq]) trivial ?_
            by_cases ho : owner b = n.uid
            · obtain ⟨o1, o2⟩ := owner_in ho huid
              have o3 : b.toNat < us.length := by omega
              simp (maxSteps := 2000000) only [↓ctl, evl, val, valP, own, app, wrt, tys, Tryz.ntmps51, Tryz.results51, ↓V_convert, ↓V_bytes, stdl, cond_true, cond_false, Nat.reduceEqDiff, Nat.reduceAdd, Nat.reduceMul, Nat.reduceSub, Nat.reduceLT, Int.reduceEq, Int.reduceLT, Int.reduceLE, Int.reduceNeg, Nat.reduceLeDiff, if_true, if_false, ↓reduceIte, forall_const, implies_true, reduceCtorEq, forall_eq_or_imp, forall_eq, ne_eq, ho, o1, o2, o3]
              refine ⟨by omega, fun h => ?_, fun h => ⟨by omega, V_backI ⟨(j + 1, us.set b.toNat true), ?_⟩ (by show _ - (j + 1) < _; omega) (weakI ?_)⟩⟩
              · have hB : useB n.uid us b = none := by unfold useB; rw [if_neg hb1, if_neg (fun h' => by rw [h] at h'; exact absurd h'.2 (by simp))]
                rw [hbs, hB] at hy
                have hy : useNs none0 f.inodes = none := hy
                rw [hy]
                simp (maxSteps := 2000000) only [↓ctl, evl, val, valP, own, app, wrt, tys, Tryz.ntmps51, Tryz.results51, ↓V_convert, ↓V_bytes, stdl, cond_true, cond_false, Nat.reduceEqDiff, Nat.reduceAdd, Nat.reduceMul, Nat.reduceSub, Nat.reduceLT, Int.reduceEq, Int.reduceLT, Int.reduceLE, Int.reduceNeg, Nat.reduceLeDiff, if_true, if_false, ↓reduceIte, forall_const, implies_true, reduceCtorEq, forall_eq_or_imp, forall_eq, ne_eq, resU_none, heapU_none]
              · refine ⟨by simp only; omega, by simp only [List.length_set]; exact hul, ?_⟩
                have hB : useB n.uid us b = some (us.set b.toNat true) := by unfold useB; rw [if_neg hb1, if_pos ⟨ho, h⟩]
                rw [hy, hbs, hB]; rfl
              · simp (maxSteps := 2000000) only [↓ctl, evl, val, valP, own, app, wrt, tys, Tryz.ntmps51, Tryz.results51, ↓V_convert, ↓V_bytes, stdl, cond_true, cond_false, Nat.reduceEqDiff, Nat.reduceAdd, Nat.reduceMul, Nat.reduceSub, Nat.reduceLT, Int.reduceEq, Int.reduceLT, Int.reduceLE, Int.reduceNeg, Nat.reduceLeDiff, if_true, if_false, ↓reduceIte, forall_const, implies_true, reduceCtorEq, forall_eq_or_imp, forall_eq, ne_eq]
                rw [wrap_id (by omega) (by omega)]
                exact ⟨rfl, congrArg (Chunk.row _ _) (set_map_fn boolRow us b.toNat true)⟩
            · have ho' : (owner b == n.uid) = false := beq_eq_false_iff_ne.2 ho
              simp (maxSteps := 2000000) only [↓ctl, evl, val, valP, own, app, wrt, tys, Tryz.ntmps51, Tryz.results51, ↓V_convert, ↓V_bytes, stdl, cond_true, cond_false, Nat.reduceEqDiff, Nat.reduceAdd, Nat.reduceMul, Nat.reduceSub, Nat.reduceLT, Int.reduceEq, Int.reduceLT, Int.reduceLE, Int.reduceNeg, Nat.reduceLeDiff, if_true, if_false, ↓reduceIte, forall_const, implies_true, reduceCtorEq, forall_eq_or_imp, forall_eq, ne_eq, ho, ho']
              have hB : useB n.uid us b = none := by unfold useB; rw [if_neg hb1, if_neg (fun h => ho h.1)]
              rw [hbs, hB] at hy
              have hy : useNs none0 f.inodes = none := hy
              rw [hy]
              simp (maxSteps := 2000000) only [↓ctl, evl, val, valP, own, app, wrt, tys, Tryz.ntmps51, Tryz.results51, ↓V_convert, ↓V_bytes, stdl, cond_true, cond_false, Nat.reduceEqDiff, Nat.reduceAdd, Nat.reduceMul, Nat.reduceSub, Nat.reduceLT, Int.reduceEq, Int.reduceLT, Int.reduceLE, Int.reduceNeg, Nat.reduceLeDiff, if_true, if_false, ↓reduceIte, forall_const, implies_true, reduceCtorEq, forall_eq_or_imp, forall_eq, ne_eq, resU_none, heapU_none]
        · simp (maxSteps := 2000000) only [↓ctl, evl, val, valP, own, app, wrt, tys, Tryz.ntmps51, Tryz.results51, ↓V_convert, ↓V_bytes, stdl, cond_true, cond_false, Nat.reduceEqDiff, Nat.reduceAdd, Nat.reduceMul, Nat.reduceSub, Nat.reduceLT, Int.reduceEq, Int.reduceLT, Int.reduceLE, Int.reduceNeg, Nat.reduceLeDiff, if_true, if_false, ↓reduceIte, forall_const, implies_true, reduceCtorEq, forall_eq_or_imp, forall_eq, ne_eq, hjl]
          have hend : useBs n.uid us (n.blocks.drop j) = some us := by rw [drop_end _ _ hjl]; rfl
          rw [hend] at hy
          refine V_backI ⟨(i + 1, us), by simp only; omega, hul, hy⟩ (by show _ - (i + 1) < _; omega) (weakI ?_)
          simp (maxSteps := 2000000) only [↓ctl, evl, val, valP, own, app, wrt, tys, Tryz.ntmps51, Tryz.results51, ↓V_convert, ↓V_bytes, stdl, cond_true, cond_false, Nat.reduceEqDiff, Nat.reduceAdd, Nat.reduceMul, Nat.reduceSub, Nat.reduceLT, Int.reduceEq, Int.reduceLT, Int.reduceLE, Int.reduceNeg, Nat.reduceLeDiff, if_true, if_false, ↓reduceIte, forall_const, implies_true, reduceCtorEq, forall_eq_or_imp, forall_eq, ne_eq]
          rw [wrap_id (by omega) (by omega)]
          rfl
    · simp (maxSteps := 2000000) only [↓ctl, evl, val, valP, own, app, wrt, tys, Tryz.ntmps51, Tryz.results51, ↓V_convert, ↓V_bytes, stdl, cond_true, cond_false, Nat.reduceEqDiff, Nat.reduceAdd, Nat.reduceMul, Nat.reduceSub, Nat.reduceLT, Int.reduceEq, Int.reduceLT, Int.reduceLE, Int.reduceNeg, Nat.reduceLeDiff, if_true, if_false, ↓reduceIte, forall_const, implies_true, reduceCtorEq, forall_eq_or_imp, forall_eq, ne_eq, hlt]
      have hend : useNs used (f.inodes.drop i) = some used := by rw [drop_end _ _ hlt]; rfl
      rw [hx, hend]
      simp (maxSteps := 2000000) only [↓ctl, evl, val, valP, own, app, wrt, tys, Tryz.ntmps51, Tryz.results51, ↓V_convert, ↓V_bytes, stdl, cond_true, cond_false, Nat.reduceEqDiff, Nat.reduceAdd, Nat.reduceMul, Nat.reduceSub, Nat.reduceLT, Int.reduceEq, Int.reduceLT, Int.reduceLE, Int.reduceNeg, Nat.reduceLeDiff, if_true, if_false, ↓reduceIte, forall_const, implies_true, reduceCtorEq, forall_eq_or_imp, forall_eq, ne_eq, resU_some, heapU_some]

/-! ### valid file systems -/
def qOk (q : Quota) : Bool := inR q.inodes 0 5 && inR q.blocks 0 14
def tailOk (data : List (List UInt8)) (n : Inode) : Bool :=
  if n.blocks.length = 0 then true else if n.blocks.getD (n.blocks.length - 1) default = -1 then true
  else zeroes ((data.getD (n.blocks.getD (n.blocks.length - 1) default).toNat default).drop (n.size - (n.blocks.length - 1) * 32).toNat)
def freeOk : List Bool → List (List UInt8) → Bool
  | u :: us, s :: ss => (u || zeroes s) && freeOk us ss
  | _, _ => true
theorem freeOk_step {us : List Bool} {ss : List (List UInt8)} {i : Nat} (h : i < ss.length) (hl : us.length = ss.length) : freeOk (us.drop i) (ss.drop i) = ((us.getD i default || zeroes (ss.getD i default)) && freeOk (us.drop (i + 1)) (ss.drop (i + 1))) := by
  rw [drop_getD default h, drop_getD default (show i < us.length by omega)]; rfl
theorem freeOk_end {us : List Bool} {ss : List (List UInt8)} {i : Nat} (h : ¬ i < ss.length) : freeOk (us.drop i) (ss.drop i) = true := by
  rw [drop_end _ _ h]; cases us.drop i <;> rfl
def headFS (f : FS) : Bool := inR f.tick 0 1000000000 && decide ((f.quotas.length : Int) = 4) && decide ((f.inodes.length : Int) = 20) && decide ((f.data.length : Int) = 56)
theorem headFS_len {f : FS} (h : headFS f = true) : f.quotas.length = 4 ∧ f.inodes.length = 20 ∧ f.data.length = 56 := by
  unfold headFS at h
  simp only [Bool.and_eq_true, decide_eq_true_eq] at h
  omega
def isFS (f : FS) : Bool := headFS f && f.quotas.all qOk && f.inodes.all isInode && (f.inodes.getD 0 default).kind == 2 &&
  (match useNs none0 f.inodes with | none => false | some u => f.data.all (fun s => decide ((s.length : Int) = 32)) && freeOk u f.data && f.inodes.all (tailOk f.data))
theorem useBs_len {uid : Int} : ∀ {l : List Int} {us u : List Bool}, useBs uid us l = some u → u.length = us.length
  | [], us, u, h => by simp only [useBs, Option.some.injEq] at h; rw [h]
  | b :: l, us, u, h => by
    simp only [useBs, Option.bind_eq_some_iff] at h
    obtain ⟨v, h1, h2⟩ := h
    rw [useBs_len h2]
    unfold useB at h1
    split at h1
    · simp only [Option.some.injEq] at h1; rw [h1]
    · split at h1
      · simp only [Option.some.injEq] at h1; rw [← h1]; simp
      · cases h1
theorem useNs_len : ∀ {l : List Inode} {us u : List Bool}, useNs us l = some u → u.length = us.length
  | [], us, u, h => by simp only [useNs, Option.some.injEq] at h; rw [h]
  | n :: l, us, u, h => by
    simp only [useNs, Option.bind_eq_some_iff] at h
    obtain ⟨v, h1, h2⟩ := h
    rw [useNs_len h2, useBs_len h1]
theorem useBs_in {uid : Int} (h0 : 0 ≤ uid) : ∀ {l : List Int} {us u : List Bool}, useBs uid us l = some u → ∀ b ∈ l, b ≠ -1 → 0 ≤ b ∧ b < 56
  | [], _, _, _, b, hb, _ => by simp at hb
  | x :: l, us, u, h, b, hb, hne => by
    simp only [useBs, Option.bind_eq_some_iff] at h
    obtain ⟨v, h1, h2⟩ := h
    rcases List.mem_cons.1 hb with rfl | hb
    · unfold useB at h1
      rw [if_neg hne] at h1
      split at h1
      · rename_i hc; exact owner_in hc.1 h0
      · cases h1
    · exact useBs_in h0 h2 b hb hne
theorem useNs_in : ∀ {l : List Inode} {us u : List Bool}, useNs us l = some u → (∀ n ∈ l, isInode n = true) → ∀ n ∈ l, ∀ b ∈ n.blocks, b ≠ -1 → 0 ≤ b ∧ b < 56
  | [], _, _, _, _, n, hn => by simp at hn
  | x :: l, us, u, h, hv, n, hn => by
    simp only [useNs, Option.bind_eq_some_iff] at h
    obtain ⟨v, h1, h2⟩ := h
    rcases List.mem_cons.1 hn with rfl | hn
    · exact useBs_in (isInode_uid (hv _ (by simp))) h1
    · exact useNs_in h2 (fun n hn => hv n (by simp [hn])) n hn
end Go.Proofs.YtobnbajakenbeaaGreat


/- Contracts: valid file systems: the reference's test.  -/
set_option linter.all false
set_option maxRecDepth 10000
set_option maxHeartbeats 4000000
namespace Go.Proofs.YtobnbajakenbeaaGreat
open Go Go.Eng

/-- What a file system's numbers and lengths are within, whatever it holds. -/
structure FS.ok (f : FS) : Prop where
  quotas : f.quotas.length ≤ 1048576
  inodes : f.inodes.length ≤ 1048576
  data : f.data.length ≤ 1048576
  nodes : ∀ n ∈ f.inodes, n.sml ∧ In64 n.size
  texts : ∀ s ∈ f.data, s.length ≤ 1048576
theorem Inode.sml.fits {n : Inode} (h : n.sml) : n.fits := ⟨Nat.le_trans h.1 (by decide), Nat.le_trans h.2.1 (by decide), Nat.le_trans h.2.2 (by decide)⟩
theorem isInode_size {n : Inode} (h : isInode n = true) : 0 ≤ n.size ∧ n.size ≤ 256 ∧ (n.blocks.length : Int) = need n.size := by
  unfold isInode at h
  split at h
  · have : n = default := by simpa using h
    subst this; decide
  · simp only [Bool.and_eq_true] at h
    obtain ⟨⟨⟨⟨h1, _⟩, _⟩, _⟩, _⟩ := h
    unfold inodeHead inR at h1
    simp only [Bool.and_eq_true, decide_eq_true_eq, beq_iff_eq] at h1
    omega
theorem d_IsFS (f : FS) (hk : f.ok) : Gives Go.Proofs.Tryz.prog 22 [fsAV f] (.bool (isFS f)) := by
  refine gives_of_V mixed Go.Proofs.Tryz.call22 Go.Proofs.Tryz.func22 rfl (by rw [Go.Proofs.Tryz.ntmps22]; simp) ?_
  simp (maxSteps := 2000000) only [↓ctl, evl, val, valP, own, app, wrt, tys, Tryz.ntmps22, Tryz.results22, ↓V_convert, ↓V_bytes, stdl, cond_true, cond_false, Nat.reduceEqDiff, Nat.reduceAdd, Nat.reduceMul, Nat.reduceSub, Nat.reduceLT, Int.reduceEq, Int.reduceLT, Int.reduceLE, Int.reduceNeg, Nat.reduceLeDiff, if_true, if_false, ↓reduceIte, forall_const, implies_true, reduceCtorEq, forall_eq_or_imp, forall_eq, ne_eq, fsAV]
  refine V_callF mixed (cap := []) (fun _ => d_l01In f.tick 0 1000000000) (by simp (maxSteps := 2000000) (contextual := true) only [↓ctl, evl, val, valP, own, app, wrt, tys, Tryz.ntmps22, Tryz.results22, ↓V_convert, ↓V_bytes, stdl, cond_true, cond_false, Nat.reduceEqDiff, Nat.reduceAdd, Nat.reduceMul, Nat.reduceSub, Nat.reduceLT, Int.reduceEq, Int.reduceLT, Int.reduceLE, Int.reduceNeg, Nat.reduceLeDiff, if_true, if_false, ↓reduceIte, forall_const, implies_true, reduceCtorEq, forall_eq_or_imp, forall_eq, ne_eq]) (by simp (maxSteps := 2000000) (contextual := true) only [↓ctl, evl, val, valP, own, app, wrt, tys, Tryz.ntmps22, Tryz.results22, ↓V_convert, ↓V_bytes, stdl, cond_true, cond_false, Nat.reduceEqDiff, Nat.reduceAdd, Nat.reduceMul, Nat.reduceSub, Nat.reduceLT, Int.reduceEq, Int.reduceLT, Int.reduceLE, Int.reduceNeg, Nat.reduceLeDiff, if_true, if_false, ↓reduceIte, forall_const, implies_true, reduceCtorEq, forall_eq_or_imp, forall_eq, ne_eq]) (by simp (maxSteps := 2000000) (contextual := true) only [↓ctl, evl, val, valP, own, app, wrt, tys, Tryz.ntmps22, Tryz.results22, ↓V_convert, ↓V_bytes, stdl, cond_true, cond_false, Nat.reduceEqDiff, Nat.reduceAdd, Nat.reduceMul, Nat.reduceSub, Nat.reduceLT, Int.reduceEq, Int.reduceLT, Int.reduceLE, Int.reduceNeg, Nat.reduceLeDiff, if_true, if_false, ↓reduceIte, forall_const, implies_true, reduceCtorEq, forall_eq_or_imp, forall_eq, ne_eq]) trivial ?_
  simp (maxSteps := 2000000) only [↓ctl, evl, val, valP, own, app, wrt, tys, Tryz.ntmps22, Tryz.results22, ↓V_convert, ↓V_bytes, stdl, cond_true, cond_false, Nat.reduceEqDiff, Nat.reduceAdd, Nat.reduceMul, Nat.reduceSub, Nat.reduceLT, Int.reduceEq, Int.reduceLT, Int.reduceLE, Int.reduceNeg, Nat.reduceLeDiff, if_true, if_false, ↓reduceIte, forall_const, implies_true, reduceCtorEq, forall_eq_or_imp, forall_eq, ne_eq]
  refine ⟨fun h => ?_, fun h => ?_⟩
  · have : headFS f = false := by unfold headFS; grind
    simp only [isFS, this, Bool.false_and]
  have hH : headFS f = true := by unfold headFS; grind
  obtain ⟨l4, l20, l56⟩ := headFS_len hH
  refine V_loopI mixed (ι := {i : Nat // i ≤ f.quotas.length ∧ f.quotas.all qOk = (f.quotas.drop i).all qOk}) (fun i => ⟨[(1, true, .ptr 0 0 0 0), (37, true, .rd 2 (f.quotas.map quotaRow)), (38, true, I f.quotas.length), (39, true, I i.1)], [(0, .box 35 [I f.tick, .rd 2 (f.quotas.map quotaRow), .rd 10 (f.inodes.map inodeRow), .rd 1 (f.data.map strRow)])], 1, 143⟩) (fun i => f.quotas.length - i.1)  ⟨0, by simp⟩ ?_ ?_ ?_
  · refine weakI ?_
    simp (maxSteps := 2000000) only [↓ctl, evl, val, valP, own, app, wrt, tys, Tryz.ntmps22, Tryz.results22, ↓V_convert, ↓V_bytes, stdl, cond_true, cond_false, Nat.reduceEqDiff, Nat.reduceAdd, Nat.reduceMul, Nat.reduceSub, Nat.reduceLT, Int.reduceEq, Int.reduceLT, Int.reduceLE, Int.reduceNeg, Nat.reduceLeDiff, if_true, if_false, ↓reduceIte, forall_const, implies_true, reduceCtorEq, forall_eq_or_imp, forall_eq, ne_eq]
    try rfl
  · trivial
  rintro ⟨i, hi, hx⟩
  by_cases hlt : i < f.quotas.length
  · have hst := all_drop (p := qOk) default hlt
    simp (maxSteps := 2000000) only [↓ctl, evl, val, valP, own, app, wrt, tys, Tryz.ntmps22, Tryz.results22, ↓V_convert, ↓V_bytes, stdl, cond_true, cond_false, Nat.reduceEqDiff, Nat.reduceAdd, Nat.reduceMul, Nat.reduceSub, Nat.reduceLT, Int.reduceEq, Int.reduceLT, Int.reduceLE, Int.reduceNeg, Nat.reduceLeDiff, if_true, if_false, ↓reduceIte, forall_const, implies_true, reduceCtorEq, forall_eq_or_imp, forall_eq, ne_eq, hlt, quotaRow_e]
    refine V_callF mixed (cap := []) (fun _ => d_l01In (f.quotas.getD i default).inodes 0 5) (by simp (maxSteps := 2000000) (contextual := true) only [↓ctl, evl, val, valP, own, app, wrt, tys, Tryz.ntmps22, Tryz.results22, ↓V_convert, ↓V_bytes, stdl, cond_true, cond_false, Nat.reduceEqDiff, Nat.reduceAdd, Nat.reduceMul, Nat.reduceSub, Nat.reduceLT, Int.reduceEq, Int.reduceLT, Int.reduceLE, Int.reduceNeg, Nat.reduceLeDiff, if_true, if_false, ↓reduceIte, forall_const, implies_true, reduceCtorEq, forall_eq_or_imp, forall_eq, ne_eq]) (by simp (maxSteps := 2000000) (contextual := true) only [↓ctl, evl, val, valP, own, app, wrt, tys, Tryz.ntmps22, Tryz.results22, ↓V_convert, ↓V_bytes, stdl, cond_true, cond_false, Nat.reduceEqDiff, Nat.reduceAdd, Nat.reduceMul, Nat.reduceSub, Nat.reduceLT, Int.reduceEq, Int.reduceLT, Int.reduceLE, Int.reduceNeg, Nat.reduceLeDiff, if_true, if_false, ↓reduceIte, forall_const, implies_true, reduceCtorEq, forall_eq_or_imp, forall_eq, ne_eq]) (by simp (maxSteps := 2000000) (contextual := true) only [↓ctl, evl, val, valP, own, app, wrt, tys, Tryz.ntmps22, Tryz.results22, ↓V_convert, ↓V_bytes, stdl, cond_true, cond_false, Nat.reduceEqDiff, Nat.reduceAdd, Nat.reduceMul, Nat.reduceSub, Nat.reduceLT, Int.reduceEq, Int.reduceLT, Int.reduceLE, Int.reduceNeg, Nat.reduceLeDiff, if_true, if_false, ↓reduceIte, forall_const, implies_true, reduceCtorEq, forall_eq_or_imp, forall_eq, ne_eq]) trivial ?_
    simp (maxSteps := 2000000) only [↓ctl, evl, val, valP, own, app, wrt, tys, Tryz.ntmps22, Tryz.results22, ↓V_convert, ↓V_bytes, stdl, cond_true, cond_false, Nat.reduceEqDiff, Nat.reduceAdd, Nat.reduceMul, Nat.reduceSub, Nat.reduceLT, Int.reduceEq, Int.reduceLT, Int.reduceLE, Int.reduceNeg, Nat.reduceLeDiff, if_true, if_false, ↓reduceIte, forall_const, implies_true, reduceCtorEq, forall_eq_or_imp, forall_eq, ne_eq]
    refine V_callF mixed (cap := []) (fun _ => d_l01In (f.quotas.getD i default).blocks 0 14) (by simp (maxSteps := 2000000) (contextual := true) only [↓ctl, evl, val, valP, own, app, wrt, tys, Tryz.ntmps22, Tryz.results22, ↓V_convert, ↓V_bytes, stdl, cond_true, cond_false, Nat.reduceEqDiff, Nat.reduceAdd, Nat.reduceMul, Nat.reduceSub, Nat.reduceLT, Int.reduceEq, Int.reduceLT, Int.reduceLE, Int.reduceNeg, Nat.reduceLeDiff, if_true, if_false, ↓reduceIte, forall_const, implies_true, reduceCtorEq, forall_eq_or_imp, forall_eq, ne_eq]) (by simp (maxSteps := 2000000) (contextual := true) only [↓ctl, evl, val, valP, own, app, wrt, tys, Tryz.ntmps22, Tryz.results22, ↓V_convert, ↓V_bytes, stdl, cond_true, cond_false, Nat.reduceEqDiff, Nat.reduceAdd, Nat.reduceMul, Nat.reduceSub, Nat.reduceLT, Int.reduceEq, Int.reduceLT, Int.reduceLE, Int.reduceNeg, Nat.reduceLeDiff, if_true, if_false, ↓reduceIte, forall_const, implies_true, reduceCtorEq, forall_eq_or_imp, forall_eq, ne_eq]) (by simp (maxSteps := 2000000) (contextual := true) only [↓ctl, evl, val, valP, own, app, wrt, tys, Tryz.ntmps22, Tryz.results22, ↓V_convert, ↓V_bytes, stdl, cond_true, cond_false, Nat.reduceEqDiff, Nat.reduceAdd, Nat.reduceMul, Nat.reduceSub, Nat.reduceLT, Int.reduceEq, Int.reduceLT, Int.reduceLE, Int.reduceNeg, Nat.reduceLeDiff, if_true, if_false, ↓reduceIte, forall_const, implies_true, reduceCtorEq, forall_eq_or_imp, forall_eq, ne_eq]) trivial ?_
    simp (maxSteps := 2000000) only [↓ctl, evl, val, valP, own, app, wrt, tys, Tryz.ntmps22, Tryz.results22, ↓V_convert, ↓V_bytes, stdl, cond_true, cond_false, Nat.reduceEqDiff, Nat.reduceAdd, Nat.reduceMul, Nat.reduceSub, Nat.reduceLT, Int.reduceEq, Int.reduceLT, Int.reduceLE, Int.reduceNeg, Nat.reduceLeDiff, if_true, if_false, ↓reduceIte, forall_const, implies_true, reduceCtorEq, forall_eq_or_imp, forall_eq, ne_eq]
    refine ⟨fun h => ?_, fun h => V_backI ⟨i + 1, by omega, ?_⟩ (by show _ - (i + 1) < _; omega) (weakI ?_)⟩
    · have : f.quotas.all qOk = false := by rw [hx, hst]; unfold qOk; grind
      simp only [isFS, this, Bool.and_false, Bool.false_and]
    · rw [hx, hst]; unfold qOk; grind
    · simp (maxSteps := 2000000) only [↓ctl, evl, val, valP, own, app, wrt, tys, Tryz.ntmps22, Tryz.results22, ↓V_convert, ↓V_bytes, stdl, cond_true, cond_false, Nat.reduceEqDiff, Nat.reduceAdd, Nat.reduceMul, Nat.reduceSub, Nat.reduceLT, Int.reduceEq, Int.reduceLT, Int.reduceLE, Int.reduceNeg, Nat.reduceLeDiff, if_true, if_false, ↓reduceIte, forall_const, implies_true, reduceCtorEq, forall_eq_or_imp, forall_eq, ne_eq]
      rw [wrap_id (by omega) (by omega)]
      rfl
  have hQ : f.quotas.all qOk = true := by rw [hx, drop_end _ _ hlt]; rfl
  simp (maxSteps := 2000000) only [↓ctl, evl, val, valP, own, app, wrt, tys, Tryz.ntmps22, Tryz.results22, ↓V_convert, ↓V_bytes, stdl, cond_true, cond_false, Nat.reduceEqDiff, Nat.reduceAdd, Nat.reduceMul, Nat.reduceSub, Nat.reduceLT, Int.reduceEq, Int.reduceLT, Int.reduceLE, Int.reduceNeg, Nat.reduceLeDiff, if_true, if_false, ↓reduceIte, forall_const, implies_true, reduceCtorEq, forall_eq_or_imp, forall_eq, ne_eq, hlt]
  clear hx hlt hi
  refine V_loopI mixed (ι := {i : Nat // i ≤ f.inodes.length ∧ f.inodes.all isInode = (f.inodes.drop i).all isInode}) (fun i => ⟨[(1, true, .ptr 0 0 0 0), (55, true, .rd 10 (f.inodes.map inodeRow)), (56, true, I f.inodes.length), (57, true, I i.1)], [(0, .box 35 [I f.tick, .rd 2 (f.quotas.map quotaRow), .rd 10 (f.inodes.map inodeRow), .rd 1 (f.data.map strRow)])], 1, 143⟩) (fun i => f.inodes.length - i.1)  ⟨0, by simp⟩ ?_ ?_ ?_
  · refine weakI ?_
    simp (maxSteps := 2000000) only [↓ctl, evl, val, valP, own, app, wrt, tys, Tryz.ntmps22, Tryz.results22, ↓V_convert, ↓V_bytes, stdl, cond_true, cond_false, Nat.reduceEqDiff, Nat.reduceAdd, Nat.reduceMul, Nat.reduceSub, Nat.reduceLT, Int.reduceEq, Int.reduceLT, Int.reduceLE, Int.reduceNeg, Nat.reduceLeDiff, if_true, if_false, ↓reduceIte, forall_const, implies_true, reduceCtorEq, forall_eq_or_imp, forall_eq, ne_eq]
    try rfl
  · trivial
  rintro ⟨i, hi, hx⟩
  by_cases hlt : i < f.inodes.length
  · have hst := all_drop (p := isInode) default hlt
    obtain ⟨m1, m2⟩ := hk.nodes _ (show f.inodes.getD i default ∈ f.inodes by rw [getD_get _ i _ hlt]; exact List.getElem_mem hlt)
    simp (maxSteps := 2000000) only [↓ctl, evl, val, valP, own, app, wrt, tys, Tryz.ntmps22, Tryz.results22, ↓V_convert, ↓V_bytes, stdl, cond_true, cond_false, Nat.reduceEqDiff, Nat.reduceAdd, Nat.reduceMul, Nat.reduceSub, Nat.reduceLT, Int.reduceEq, Int.reduceLT, Int.reduceLE, Int.reduceNeg, Nat.reduceLeDiff, if_true, if_false, ↓reduceIte, forall_const, implies_true, reduceCtorEq, forall_eq_or_imp, forall_eq, ne_eq, hlt, inodeRow_e, ints_map, acls_map]
    refine V_callF mixed (cap := []) (fun _ => d_IsInode (f.inodes.getD i default) m1.fits m2) (by simp (maxSteps := 2000000) only [↓ctl, evl, val, valP, own, app, wrt, tys, Tryz.ntmps22, Tryz.results22, ↓V_convert, ↓V_bytes, stdl, cond_true, cond_false, Nat.reduceEqDiff, Nat.reduceAdd, Nat.reduceMul, Nat.reduceSub, Nat.reduceLT, Int.reduceEq, Int.reduceLT, Int.reduceLE, Int.reduceNeg, Nat.reduceLeDiff, if_true, if_false, ↓reduceIte, forall_const, implies_true, reduceCtorEq, forall_eq_or_imp, forall_eq, ne_eq, inodeAV, ints_map, acls_map]) (by simp (maxSteps := 2000000) only [↓ctl, evl, val, valP, own, app, wrt, tys, Tryz.ntmps22, Tryz.results22, ↓V_convert, ↓V_bytes, stdl, cond_true, cond_false, Nat.reduceEqDiff, Nat.reduceAdd, Nat.reduceMul, Nat.reduceSub, Nat.reduceLT, Int.reduceEq, Int.reduceLT, Int.reduceLE, Int.reduceNeg, Nat.reduceLeDiff, if_true, if_false, ↓reduceIte, forall_const, implies_true, reduceCtorEq, forall_eq_or_imp, forall_eq, ne_eq]) (by simp (maxSteps := 2000000) only [↓ctl, evl, val, valP, own, app, wrt, tys, Tryz.ntmps22, Tryz.results22, ↓V_convert, ↓V_bytes, stdl, cond_true, cond_false, Nat.reduceEqDiff, Nat.reduceAdd, Nat.reduceMul, Nat.reduceSub, Nat.reduceLT, Int.reduceEq, Int.reduceLT, Int.reduceLE, Int.reduceNeg, Nat.reduceLeDiff, if_true, if_false, ↓reduceIte, forall_const, implies_true, reduceCtorEq, forall_eq_or_imp, forall_eq, ne_eq]) trivial ?_
    simp (maxSteps := 2000000) only [↓ctl, evl, val, valP, own, app, wrt, tys, Tryz.ntmps22, Tryz.results22, ↓V_convert, ↓V_bytes, stdl, cond_true, cond_false, Nat.reduceEqDiff, Nat.reduceAdd, Nat.reduceMul, Nat.reduceSub, Nat.reduceLT, Int.reduceEq, Int.reduceLT, Int.reduceLE, Int.reduceNeg, Nat.reduceLeDiff, if_true, if_false, ↓reduceIte, forall_const, implies_true, reduceCtorEq, forall_eq_or_imp, forall_eq, ne_eq]
    refine ⟨fun h => ?_, fun h => V_backI ⟨i + 1, by omega, ?_⟩ (by show _ - (i + 1) < _; omega) (weakI ?_)⟩
    · have : f.inodes.all isInode = false := by rw [hx, hst, h]; rfl
      simp only [isFS, this, Bool.and_false, Bool.false_and]
    · rw [hx, hst, h]; rfl
    · simp (maxSteps := 2000000) only [↓ctl, evl, val, valP, own, app, wrt, tys, Tryz.ntmps22, Tryz.results22, ↓V_convert, ↓V_bytes, stdl, cond_true, cond_false, Nat.reduceEqDiff, Nat.reduceAdd, Nat.reduceMul, Nat.reduceSub, Nat.reduceLT, Int.reduceEq, Int.reduceLT, Int.reduceLE, Int.reduceNeg, Nat.reduceLeDiff, if_true, if_false, ↓reduceIte, forall_const, implies_true, reduceCtorEq, forall_eq_or_imp, forall_eq, ne_eq]
      rw [wrap_id (by omega) (by omega)]
      rfl
  have hN : f.inodes.all isInode = true := by rw [hx, drop_end _ _ hlt]; rfl
  have hall : ∀ n ∈ f.inodes, isInode n = true := List.all_eq_true.1 hN
  have z0 : (0 : Nat) < f.inodes.length := by omega
  simp (maxSteps := 2000000) only [↓ctl, evl, val, valP, own, app, wrt, tys, Tryz.ntmps22, Tryz.results22, ↓V_convert, ↓V_bytes, stdl, cond_true, cond_false, Nat.reduceEqDiff, Nat.reduceAdd, Nat.reduceMul, Nat.reduceSub, Nat.reduceLT, Int.reduceEq, Int.reduceLT, Int.reduceLE, Int.reduceNeg, Nat.reduceLeDiff, if_true, if_false, ↓reduceIte, forall_const, implies_true, reduceCtorEq, forall_eq_or_imp, forall_eq, ne_eq, hlt, z0, inodeRow_e]
  clear hx hlt hi
  refine ⟨by omega, fun h2 => ?_, fun h2 => ?_⟩
  · have : ((f.inodes.getD 0 default).kind == 2) = false := beq_eq_false_iff_ne.2 h2
    simp only [isFS, this, Bool.and_false, Bool.false_and]
  have h2' : ((f.inodes.getD 0 default).kind == 2) = true := beq_iff_eq.2 h2
  have hIs : isFS f = (match useNs none0 f.inodes with | none => false | some u => f.data.all (fun s => decide ((s.length : Int) = 32)) && freeOk u f.data && f.inodes.all (tailOk f.data)) := by
    unfold isFS; rw [hH, hQ, hN, h2']; rfl
  have hc := d_l08Used f hall (by omega) (fun n hn => (hk.nodes n hn).1.fits.1)
  cases hU : useNs none0 f.inodes with
  | none =>
    rw [hU] at hc hIs
    rw [resU_none, heapU_none] at hc
    refine V_callR mixed (cap := []) (hc) (by simp (maxSteps := 2000000) only [↓ctl, evl, val, valP, own, app, wrt, tys, Tryz.ntmps22, Tryz.results22, ↓V_convert, ↓V_bytes, stdl, cond_true, cond_false, Nat.reduceEqDiff, Nat.reduceAdd, Nat.reduceMul, Nat.reduceSub, Nat.reduceLT, Int.reduceEq, Int.reduceLT, Int.reduceLE, Int.reduceNeg, Nat.reduceLeDiff, if_true, if_false, ↓reduceIte, forall_const, implies_true, reduceCtorEq, forall_eq_or_imp, forall_eq, ne_eq, fsAV]) (by simp (maxSteps := 2000000) only [↓ctl, evl, val, valP, own, app, wrt, tys, Tryz.ntmps22, Tryz.results22, ↓V_convert, ↓V_bytes, stdl, cond_true, cond_false, Nat.reduceEqDiff, Nat.reduceAdd, Nat.reduceMul, Nat.reduceSub, Nat.reduceLT, Int.reduceEq, Int.reduceLT, Int.reduceLE, Int.reduceNeg, Nat.reduceLeDiff, if_true, if_false, ↓reduceIte, forall_const, implies_true, reduceCtorEq, forall_eq_or_imp, forall_eq, ne_eq]) (by simp (maxSteps := 2000000) only [↓ctl, evl, val, valP, own, app, wrt, tys, Tryz.ntmps22, Tryz.results22, ↓V_convert, ↓V_bytes, stdl, cond_true, cond_false, Nat.reduceEqDiff, Nat.reduceAdd, Nat.reduceMul, Nat.reduceSub, Nat.reduceLT, Int.reduceEq, Int.reduceLT, Int.reduceLE, Int.reduceNeg, Nat.reduceLeDiff, if_true, if_false, ↓reduceIte, forall_const, implies_true, reduceCtorEq, forall_eq_or_imp, forall_eq, ne_eq]) trivial ?_
    simp (maxSteps := 2000000) only [↓ctl, evl, val, valP, own, app, wrt, tys, Tryz.ntmps22, Tryz.results22, ↓V_convert, ↓V_bytes, stdl, cond_true, cond_false, Nat.reduceEqDiff, Nat.reduceAdd, Nat.reduceMul, Nat.reduceSub, Nat.reduceLT, Int.reduceEq, Int.reduceLT, Int.reduceLE, Int.reduceNeg, Nat.reduceLeDiff, if_true, if_false, ↓reduceIte, forall_const, implies_true, reduceCtorEq, forall_eq_or_imp, forall_eq, ne_eq]
    exact hIs.symm
  | some u =>
  rw [hU] at hc hIs
  rw [resU_some, heapU_some] at hc
  have hIs : isFS f = (f.data.all (fun s => decide ((s.length : Int) = 32)) && freeOk u f.data && f.inodes.all (tailOk f.data)) := hIs
  have ul : u.length = 56 := by rw [useNs_len hU]; simp [none0]
  refine V_callR mixed (cap := []) (hc) (by simp (maxSteps := 2000000) only [↓ctl, evl, val, valP, own, app, wrt, tys, Tryz.ntmps22, Tryz.results22, ↓V_convert, ↓V_bytes, stdl, cond_true, cond_false, Nat.reduceEqDiff, Nat.reduceAdd, Nat.reduceMul, Nat.reduceSub, Nat.reduceLT, Int.reduceEq, Int.reduceLT, Int.reduceLE, Int.reduceNeg, Nat.reduceLeDiff, if_true, if_false, ↓reduceIte, forall_const, implies_true, reduceCtorEq, forall_eq_or_imp, forall_eq, ne_eq, fsAV]) (by simp (maxSteps := 2000000) only [↓ctl, evl, val, valP, own, app, wrt, tys, Tryz.ntmps22, Tryz.results22, ↓V_convert, ↓V_bytes, stdl, cond_true, cond_false, Nat.reduceEqDiff, Nat.reduceAdd, Nat.reduceMul, Nat.reduceSub, Nat.reduceLT, Int.reduceEq, Int.reduceLT, Int.reduceLE, Int.reduceNeg, Nat.reduceLeDiff, if_true, if_false, ↓reduceIte, forall_const, implies_true, reduceCtorEq, forall_eq_or_imp, forall_eq, ne_eq]) (by simp (maxSteps := 2000000) only [↓ctl, evl, val, valP, own, app, wrt, tys, Tryz.ntmps22, Tryz.results22, ↓V_convert, ↓V_bytes, stdl, cond_true, cond_false, Nat.reduceEqDiff, Nat.reduceAdd, Nat.reduceMul, Nat.reduceSub, Nat.reduceLT, Int.reduceEq, Int.reduceLT, Int.reduceLE, Int.reduceNeg, Nat.reduceLeDiff, if_true, if_false, ↓reduceIte, forall_const, implies_true, reduceCtorEq, forall_eq_or_imp, forall_eq, ne_eq]) trivial ?_
  simp (maxSteps := 2000000) only [↓ctl, evl, val, valP, own, app, wrt, tys, Tryz.ntmps22, Tryz.results22, ↓V_convert, ↓V_bytes, stdl, cond_true, cond_false, Nat.reduceEqDiff, Nat.reduceAdd, Nat.reduceMul, Nat.reduceSub, Nat.reduceLT, Int.reduceEq, Int.reduceLT, Int.reduceLE, Int.reduceNeg, Nat.reduceLeDiff, if_true, if_false, ↓reduceIte, forall_const, implies_true, reduceCtorEq, forall_eq_or_imp, forall_eq, ne_eq]
  refine V_loopI mixed (ι := {i : Nat // i ≤ f.data.length ∧ f.data.all (fun s => decide ((s.length : Int) = 32)) = (f.data.drop i).all (fun s => decide ((s.length : Int) = 32)) ∧ freeOk u f.data = freeOk (u.drop i) (f.data.drop i)}) (fun i => ⟨[(1, true, .ptr 0 0 0 0), (7, true, .sl 2 1 0 56), (79, true, .rd 1 (f.data.map strRow)), (80, true, I f.data.length), (81, true, I i.1)], [(2, .row 4 1 (u.map boolRow)), (0, .box 35 [I f.tick, .rd 2 (f.quotas.map quotaRow), .rd 10 (f.inodes.map inodeRow), .rd 1 (f.data.map strRow)])], 3, 143⟩) (fun i => f.data.length - i.1)  ⟨0, by simp⟩ ?_ ?_ ?_
  · refine weakI ?_
    simp (maxSteps := 2000000) only [↓ctl, evl, val, valP, own, app, wrt, tys, Tryz.ntmps22, Tryz.results22, ↓V_convert, ↓V_bytes, stdl, cond_true, cond_false, Nat.reduceEqDiff, Nat.reduceAdd, Nat.reduceMul, Nat.reduceSub, Nat.reduceLT, Int.reduceEq, Int.reduceLT, Int.reduceLE, Int.reduceNeg, Nat.reduceLeDiff, if_true, if_false, ↓reduceIte, forall_const, implies_true, reduceCtorEq, forall_eq_or_imp, forall_eq, ne_eq]
    try rfl
  · trivial
  rintro ⟨i, hi, hx, hy⟩
  by_cases hlt : i < f.data.length
  · have hst := all_drop (p := fun s : List UInt8 => decide ((s.length : Int) = 32)) default hlt
    have hst2 := freeOk_step (us := u) hlt (by omega)
    have e3 : i < u.length := by omega
    have e4 : i < 56 := by omega
    have ht := hk.texts _ (show f.data.getD i default ∈ f.data by rw [getD_get _ i _ hlt]; exact List.getElem_mem hlt)
    simp (maxSteps := 2000000) only [↓ctl, evl, val, valP, own, app, wrt, tys, Tryz.ntmps22, Tryz.results22, ↓V_convert, ↓V_bytes, stdl, cond_true, cond_false, Nat.reduceEqDiff, Nat.reduceAdd, Nat.reduceMul, Nat.reduceSub, Nat.reduceLT, Int.reduceEq, Int.reduceLT, Int.reduceLE, Int.reduceNeg, Nat.reduceLeDiff, if_true, if_false, ↓reduceIte, forall_const, implies_true, reduceCtorEq, forall_eq_or_imp, forall_eq, ne_eq, hlt, e3, e4]
    refine V_callF mixed (cap := []) (fun _ => d_IsZeroes (f.data.getD i default) (by omega)) (by simp (maxSteps := 2000000) (contextual := true) only [↓ctl, evl, val, valP, own, app, wrt, tys, Tryz.ntmps22, Tryz.results22, ↓V_convert, ↓V_bytes, stdl, cond_true, cond_false, Nat.reduceEqDiff, Nat.reduceAdd, Nat.reduceMul, Nat.reduceSub, Nat.reduceLT, Int.reduceEq, Int.reduceLT, Int.reduceLE, Int.reduceNeg, Nat.reduceLeDiff, if_true, if_false, ↓reduceIte, forall_const, implies_true, reduceCtorEq, forall_eq_or_imp, forall_eq, ne_eq]) (by simp (maxSteps := 2000000) (contextual := true) only [↓ctl, evl, val, valP, own, app, wrt, tys, Tryz.ntmps22, Tryz.results22, ↓V_convert, ↓V_bytes, stdl, cond_true, cond_false, Nat.reduceEqDiff, Nat.reduceAdd, Nat.reduceMul, Nat.reduceSub, Nat.reduceLT, Int.reduceEq, Int.reduceLT, Int.reduceLE, Int.reduceNeg, Nat.reduceLeDiff, if_true, if_false, ↓reduceIte, forall_const, implies_true, reduceCtorEq, forall_eq_or_imp, forall_eq, ne_eq]) (by simp (maxSteps := 2000000) (contextual := true) only [↓ctl, evl, val, valP, own, app, wrt, tys, Tryz.ntmps22, Tryz.results22, ↓V_convert, ↓V_bytes, stdl, cond_true, cond_false, Nat.reduceEqDiff, Nat.reduceAdd, Nat.reduceMul, Nat.reduceSub, Nat.reduceLT, Int.reduceEq, Int.reduceLT, Int.reduceLE, Int.reduceNeg, Nat.reduceLeDiff, if_true, if_false, ↓reduceIte, forall_const, implies_true, reduceCtorEq, forall_eq_or_imp, forall_eq, ne_eq]) trivial ?_
    simp (maxSteps := 2000000) only [↓ctl, evl, val, valP, own, app, wrt, tys, Tryz.ntmps22, Tryz.results22, ↓V_convert, ↓V_bytes, stdl, cond_true, cond_false, Nat.reduceEqDiff, Nat.reduceAdd, Nat.reduceMul, Nat.reduceSub, Nat.reduceLT, Int.reduceEq, Int.reduceLT, Int.reduceLE, Int.reduceNeg, Nat.reduceLeDiff, if_true, if_false, ↓reduceIte, forall_const, implies_true, reduceCtorEq, forall_eq_or_imp, forall_eq, ne_eq]
    refine ⟨by grind, fun h => ?_, fun h => V_backI ⟨i + 1, by omega, ?_, ?_⟩ (by show _ - (i + 1) < _; omega) (weakI ?_)⟩
    · rw [hIs, hx, hst, hy, hst2]; grind
    · rw [hx, hst]; grind
    · rw [hy, hst2]; grind
    · simp (maxSteps := 2000000) only [↓ctl, evl, val, valP, own, app, wrt, tys, Tryz.ntmps22, Tryz.results22, ↓V_convert, ↓V_bytes, stdl, cond_true, cond_false, Nat.reduceEqDiff, Nat.reduceAdd, Nat.reduceMul, Nat.reduceSub, Nat.reduceLT, Int.reduceEq, Int.reduceLT, Int.reduceLE, Int.reduceNeg, Nat.reduceLeDiff, if_true, if_false, ↓reduceIte, forall_const, implies_true, reduceCtorEq, forall_eq_or_imp, forall_eq, ne_eq]
      rw [wrap_id (by omega) (by omega)]
      rfl
  have hD : f.data.all (fun s => decide ((s.length : Int) = 32)) = true := by rw [hx, drop_end _ _ hlt]; rfl
  have hF : freeOk u f.data = true := by rw [hy, freeOk_end hlt]
  have hlen : ∀ s ∈ f.data, s.length = 32 := fun s hs => by
    have := List.all_eq_true.1 hD s hs
    simp only [decide_eq_true_eq] at this; omega
  rw [hD, hF] at hIs
  have hIs : isFS f = f.inodes.all (tailOk f.data) := hIs
  simp (maxSteps := 2000000) only [↓ctl, evl, val, valP, own, app, wrt, tys, Tryz.ntmps22, Tryz.results22, ↓V_convert, ↓V_bytes, stdl, cond_true, cond_false, Nat.reduceEqDiff, Nat.reduceAdd, Nat.reduceMul, Nat.reduceSub, Nat.reduceLT, Int.reduceEq, Int.reduceLT, Int.reduceLE, Int.reduceNeg, Nat.reduceLeDiff, if_true, if_false, ↓reduceIte, forall_const, implies_true, reduceCtorEq, forall_eq_or_imp, forall_eq, ne_eq, hlt]
  clear hx hlt hi hy
  refine V_loopI mixed (ι := {i : Nat // i ≤ f.inodes.length ∧ f.inodes.all (tailOk f.data) = (f.inodes.drop i).all (tailOk f.data)}) (fun i => ⟨[(1, true, .ptr 0 0 0 0), (103, true, .rd 10 (f.inodes.map inodeRow)), (104, true, I f.inodes.length), (105, true, I i.1)], [(0, .box 35 [I f.tick, .rd 2 (f.quotas.map quotaRow), .rd 10 (f.inodes.map inodeRow), .rd 1 (f.data.map strRow)])], 1, 143⟩) (fun i => f.inodes.length - i.1)  ⟨0, by simp⟩ ?_ ?_ ?_
  · refine weakI ?_
    simp (maxSteps := 2000000) only [↓ctl, evl, val, valP, own, app, wrt, tys, Tryz.ntmps22, Tryz.results22, ↓V_convert, ↓V_bytes, stdl, cond_true, cond_false, Nat.reduceEqDiff, Nat.reduceAdd, Nat.reduceMul, Nat.reduceSub, Nat.reduceLT, Int.reduceEq, Int.reduceLT, Int.reduceLE, Int.reduceNeg, Nat.reduceLeDiff, if_true, if_false, ↓reduceIte, forall_const, implies_true, reduceCtorEq, forall_eq_or_imp, forall_eq, ne_eq]
    try rfl
  · trivial
  rintro ⟨i, hi, hx⟩
  by_cases hlt : i < f.inodes.length
  · have hst := all_drop (p := tailOk f.data) default hlt
    have hm : f.inodes.getD i default ∈ f.inodes := by rw [getD_get _ i _ hlt]; exact List.getElem_mem hlt
    have hv := hall _ hm
    obtain ⟨s1, s2, s3⟩ := isInode_size hv
    have hin := isInode_in hv
    -- the block numbers are those of blocks in use
    have hown : ∀ b ∈ (f.inodes.getD i default).blocks, b ≠ -1 → 0 ≤ b ∧ b < 56 := useNs_in hU hall _ hm
    generalize hn : f.inodes.getD i default = n at *
    by_cases hb0 : n.blocks.length = 0
    · have e1 : ¬ IntKind.i64.wrap ((n.blocks.length : Int) - 1) ≥ 0 := by rw [hb0]; decide
      simp (maxSteps := 2000000) only [↓ctl, evl, val, valP, own, app, wrt, tys, Tryz.ntmps22, Tryz.results22, ↓V_convert, ↓V_bytes, stdl, cond_true, cond_false, Nat.reduceEqDiff, Nat.reduceAdd, Nat.reduceMul, Nat.reduceSub, Nat.reduceLT, Int.reduceEq, Int.reduceLT, Int.reduceLE, Int.reduceNeg, Nat.reduceLeDiff, if_true, if_false, ↓reduceIte, forall_const, implies_true, reduceCtorEq, forall_eq_or_imp, forall_eq, ne_eq, hlt, hn, inodeRow_e, ints_map, acls_map, e1]
      refine ⟨by kernel_rfl, ?_⟩
      refine V_callF mixed (cap := []) (fun _ => d_IsZeroes [] (by simp)) (by simp (maxSteps := 2000000) (contextual := true) only [↓ctl, evl, val, valP, own, app, wrt, tys, Tryz.ntmps22, Tryz.results22, ↓V_convert, ↓V_bytes, stdl, cond_true, cond_false, Nat.reduceEqDiff, Nat.reduceAdd, Nat.reduceMul, Nat.reduceSub, Nat.reduceLT, Int.reduceEq, Int.reduceLT, Int.reduceLE, Int.reduceNeg, Nat.reduceLeDiff, if_true, if_false, ↓reduceIte, forall_const, implies_true, reduceCtorEq, forall_eq_or_imp, forall_eq, ne_eq]) (by simp (maxSteps := 2000000) (contextual := true) only [↓ctl, evl, val, valP, own, app, wrt, tys, Tryz.ntmps22, Tryz.results22, ↓V_convert, ↓V_bytes, stdl, cond_true, cond_false, Nat.reduceEqDiff, Nat.reduceAdd, Nat.reduceMul, Nat.reduceSub, Nat.reduceLT, Int.reduceEq, Int.reduceLT, Int.reduceLE, Int.reduceNeg, Nat.reduceLeDiff, if_true, if_false, ↓reduceIte, forall_const, implies_true, reduceCtorEq, forall_eq_or_imp, forall_eq, ne_eq]) (by simp (maxSteps := 2000000) (contextual := true) only [↓ctl, evl, val, valP, own, app, wrt, tys, Tryz.ntmps22, Tryz.results22, ↓V_convert, ↓V_bytes, stdl, cond_true, cond_false, Nat.reduceEqDiff, Nat.reduceAdd, Nat.reduceMul, Nat.reduceSub, Nat.reduceLT, Int.reduceEq, Int.reduceLT, Int.reduceLE, Int.reduceNeg, Nat.reduceLeDiff, if_true, if_false, ↓reduceIte, forall_const, implies_true, reduceCtorEq, forall_eq_or_imp, forall_eq, ne_eq]) trivial ?_
      simp (maxSteps := 2000000) only [↓ctl, evl, val, valP, own, app, wrt, tys, Tryz.ntmps22, Tryz.results22, ↓V_convert, ↓V_bytes, stdl, cond_true, cond_false, Nat.reduceEqDiff, Nat.reduceAdd, Nat.reduceMul, Nat.reduceSub, Nat.reduceLT, Int.reduceEq, Int.reduceLT, Int.reduceLE, Int.reduceNeg, Nat.reduceLeDiff, if_true, if_false, ↓reduceIte, forall_const, implies_true, reduceCtorEq, forall_eq_or_imp, forall_eq, ne_eq, e1]
      refine V_backI ⟨i + 1, by omega, ?_⟩ (by show _ - (i + 1) < _; omega) (weakI ?_)
      · have : tailOk f.data n = true := by unfold tailOk; rw [if_pos hb0]
        rw [hx, hst, this]; rfl
      · simp (maxSteps := 2000000) only [↓ctl, evl, val, valP, own, app, wrt, tys, Tryz.ntmps22, Tryz.results22, ↓V_convert, ↓V_bytes, stdl, cond_true, cond_false, Nat.reduceEqDiff, Nat.reduceAdd, Nat.reduceMul, Nat.reduceSub, Nat.reduceLT, Int.reduceEq, Int.reduceLT, Int.reduceLE, Int.reduceNeg, Nat.reduceLeDiff, if_true, if_false, ↓reduceIte, forall_const, implies_true, reduceCtorEq, forall_eq_or_imp, forall_eq, ne_eq]
        rw [wrap_id (by omega) (by omega)]
        rfl
    obtain ⟨L, hL⟩ : ∃ L, n.blocks.length = L + 1 := ⟨n.blocks.length - 1, by omega⟩
    have hLl : L < n.blocks.length := by omega
    have e1 : IntKind.i64.wrap ((n.blocks.length : Int) - 1) = (L : Int) := by have := (hk.nodes n hm).1.1; rw [wrap_id (by omega) (by omega)]; omega
    have e2 : (L : Int) ≥ 0 := by omega
    have hL8 : (L : Int) * 32 < 256 ∧ 0 < n.size - (L : Int) * 32 ∧ n.size - (L : Int) * 32 ≤ 32 := by
      unfold need at s3; split at s3 <;> omega
    have e3 : IntKind.i64.wrap ((L : Int) * 32) = (L : Int) * 32 := wrap_id (by omega) (by omega)
    have e4 : IntKind.i64.wrap (n.size - (L : Int) * 32) = n.size - (L : Int) * 32 := wrap_id (by omega) (by omega)
    have hbm : n.blocks.getD L default ∈ n.blocks := by rw [getD_get _ _ _ hLl]; exact List.getElem_mem hLl
    have hob := hown _ hbm
    have hto : tailOk f.data n = if n.blocks.getD L default = -1 then true else zeroes ((f.data.getD (n.blocks.getD L default).toNat default).drop (n.size - (L : Int) * 32).toNat) := by
      unfold tailOk; rw [if_neg hb0, hL]; simp
    generalize hbb : n.blocks.getD L default = b at *
    by_cases hb1 : b = -1
    · simp (maxSteps := 2000000) only [↓ctl, evl, val, valP, own, app, wrt, tys, Tryz.ntmps22, Tryz.results22, ↓V_convert, ↓V_bytes, stdl, cond_true, cond_false, Nat.reduceEqDiff, Nat.reduceAdd, Nat.reduceMul, Nat.reduceSub, Nat.reduceLT, Int.reduceEq, Int.reduceLT, Int.reduceLE, Int.reduceNeg, Nat.reduceLeDiff, if_true, if_false, ↓reduceIte, forall_const, implies_true, reduceCtorEq, forall_eq_or_imp, forall_eq, ne_eq, hlt, hn, inodeRow_e, ints_map, acls_map, e1, e2, e3, e4, hLl, hbb, hb1]
      refine ⟨by kernel_rfl, ?_⟩
      refine V_callF mixed (cap := []) (fun _ => d_IsZeroes [] (by simp)) (by simp (maxSteps := 2000000) (contextual := true) only [↓ctl, evl, val, valP, own, app, wrt, tys, Tryz.ntmps22, Tryz.results22, ↓V_convert, ↓V_bytes, stdl, cond_true, cond_false, Nat.reduceEqDiff, Nat.reduceAdd, Nat.reduceMul, Nat.reduceSub, Nat.reduceLT, Int.reduceEq, Int.reduceLT, Int.reduceLE, Int.reduceNeg, Nat.reduceLeDiff, if_true, if_false, ↓reduceIte, forall_const, implies_true, reduceCtorEq, forall_eq_or_imp, forall_eq, ne_eq]) (by simp (maxSteps := 2000000) (contextual := true) only [↓ctl, evl, val, valP, own, app, wrt, tys, Tryz.ntmps22, Tryz.results22, ↓V_convert, ↓V_bytes, stdl, cond_true, cond_false, Nat.reduceEqDiff, Nat.reduceAdd, Nat.reduceMul, Nat.reduceSub, Nat.reduceLT, Int.reduceEq, Int.reduceLT, Int.reduceLE, Int.reduceNeg, Nat.reduceLeDiff, if_true, if_false, ↓reduceIte, forall_const, implies_true, reduceCtorEq, forall_eq_or_imp, forall_eq, ne_eq]) (by simp (maxSteps := 2000000) (contextual := true) only [↓ctl, evl, val, valP, own, app, wrt, tys, Tryz.ntmps22, Tryz.results22, ↓V_convert, ↓V_bytes, stdl, cond_true, cond_false, Nat.reduceEqDiff, Nat.reduceAdd, Nat.reduceMul, Nat.reduceSub, Nat.reduceLT, Int.reduceEq, Int.reduceLT, Int.reduceLE, Int.reduceNeg, Nat.reduceLeDiff, if_true, if_false, ↓reduceIte, forall_const, implies_true, reduceCtorEq, forall_eq_or_imp, forall_eq, ne_eq]) trivial ?_
      simp (maxSteps := 2000000) only [↓ctl, evl, val, valP, own, app, wrt, tys, Tryz.ntmps22, Tryz.results22, ↓V_convert, ↓V_bytes, stdl, cond_true, cond_false, Nat.reduceEqDiff, Nat.reduceAdd, Nat.reduceMul, Nat.reduceSub, Nat.reduceLT, Int.reduceEq, Int.reduceLT, Int.reduceLE, Int.reduceNeg, Nat.reduceLeDiff, if_true, if_false, ↓reduceIte, forall_const, implies_true, reduceCtorEq, forall_eq_or_imp, forall_eq, ne_eq, e1, e2, hb1, hLl, hbb]
      refine V_backI ⟨i + 1, by omega, ?_⟩ (by show _ - (i + 1) < _; omega) (weakI ?_)
      · rw [hx, hst, hto, if_pos hb1]; rfl
      · simp (maxSteps := 2000000) only [↓ctl, evl, val, valP, own, app, wrt, tys, Tryz.ntmps22, Tryz.results22, ↓V_convert, ↓V_bytes, stdl, cond_true, cond_false, Nat.reduceEqDiff, Nat.reduceAdd, Nat.reduceMul, Nat.reduceSub, Nat.reduceLT, Int.reduceEq, Int.reduceLT, Int.reduceLE, Int.reduceNeg, Nat.reduceLeDiff, if_true, if_false, ↓reduceIte, forall_const, implies_true, reduceCtorEq, forall_eq_or_imp, forall_eq, ne_eq]
        rw [wrap_id (by omega) (by omega)]
        rfl
    obtain ⟨o1, o2⟩ := hob hb1
    have o3 : b < f.data.length := by omega
    have o4 : b.toNat < f.data.length := by omega
    have hd32 : (f.data.getD b.toNat default).length = 32 := hlen _ (by rw [getD_get _ _ _ o4]; exact List.getElem_mem o4)
    simp (maxSteps := 2000000) only [↓ctl, evl, val, valP, own, app, wrt, tys, Tryz.ntmps22, Tryz.results22, ↓V_convert, ↓V_bytes, stdl, cond_true, cond_false, Nat.reduceEqDiff, Nat.reduceAdd, Nat.reduceMul, Nat.reduceSub, Nat.reduceLT, Int.reduceEq, Int.reduceLT, Int.reduceLE, Int.reduceNeg, Nat.reduceLeDiff, if_true, if_false, ↓reduceIte, forall_const, implies_true, reduceCtorEq, forall_eq_or_imp, forall_eq, ne_eq, hlt, hn, inodeRow_e, ints_map, acls_map, e1, e2, e3, e4, hLl, hbb, hb1, o1, o3, o4, hd32]
    have tk : List.take (32 - (n.size - (L : Int) * 32).toNat) (List.drop (n.size - (L : Int) * 32).toNat (f.data.getD b.toNat default)) = List.drop (n.size - (L : Int) * 32).toNat (f.data.getD b.toNat default) := List.take_of_length_le (by rw [List.length_drop, hd32]; omega)
    refine ⟨by kernel_rfl, ⟨by omega, by omega⟩, ?_⟩
    refine V_callF mixed (cap := []) (fun _ => d_IsZeroes (List.drop (n.size - (L : Int) * 32).toNat (f.data.getD b.toNat default)) (by rw [List.length_drop, hd32]; omega)) (by simp (maxSteps := 2000000) (contextual := true) only [↓ctl, evl, val, valP, own, app, wrt, tys, Tryz.ntmps22, Tryz.results22, ↓V_convert, ↓V_bytes, stdl, cond_true, cond_false, Nat.reduceEqDiff, Nat.reduceAdd, Nat.reduceMul, Nat.reduceSub, Nat.reduceLT, Int.reduceEq, Int.reduceLT, Int.reduceLE, Int.reduceNeg, Nat.reduceLeDiff, if_true, if_false, ↓reduceIte, forall_const, implies_true, reduceCtorEq, forall_eq_or_imp, forall_eq, ne_eq, tk]) (by simp (maxSteps := 2000000) (contextual := true) only [↓ctl, evl, val, valP, own, app, wrt, tys, Tryz.ntmps22, Tryz.results22, ↓V_convert, ↓V_bytes, stdl, cond_true, cond_false, Nat.reduceEqDiff, Nat.reduceAdd, Nat.reduceMul, Nat.reduceSub, Nat.reduceLT, Int.reduceEq, Int.reduceLT, Int.reduceLE, Int.reduceNeg, Nat.reduceLeDiff, if_true, if_false, ↓reduceIte, forall_const, implies_true, reduceCtorEq, forall_eq_or_imp, forall_eq, ne_eq]) (by simp (maxSteps := 2000000) (contextual := true) only [↓ctl, evl, val, valP, own, app, wrt, tys, Tryz.ntmps22, Tryz.results22, ↓V_convert, ↓V_bytes, stdl, cond_true, cond_false, Nat.reduceEqDiff, Nat.reduceAdd, Nat.reduceMul, Nat.reduceSub, Nat.reduceLT, Int.reduceEq, Int.reduceLT, Int.reduceLE, Int.reduceNeg, Nat.reduceLeDiff, if_true, if_false, ↓reduceIte, forall_const, implies_true, reduceCtorEq, forall_eq_or_imp, forall_eq, ne_eq]) trivial ?_
    simp (maxSteps := 2000000) only [↓ctl, evl, val, valP, own, app, wrt, tys, Tryz.ntmps22, Tryz.results22, ↓V_convert, ↓V_bytes, stdl, cond_true, cond_false, Nat.reduceEqDiff, Nat.reduceAdd, Nat.reduceMul, Nat.reduceSub, Nat.reduceLT, Int.reduceEq, Int.reduceLT, Int.reduceLE, Int.reduceNeg, Nat.reduceLeDiff, if_true, if_false, ↓reduceIte, forall_const, implies_true, reduceCtorEq, forall_eq_or_imp, forall_eq, ne_eq, e1, e2, hb1]
    refine ⟨fun hz => ?_, fun hz => V_backI ⟨i + 1, by omega, ?_⟩ (by show _ - (i + 1) < _; omega) (weakI ?_)⟩
    · rw [hIs, hx, hst, hto, if_neg hb1, hz]; rfl
    · rw [hx, hst, hto, if_neg hb1, hz]; rfl
    · simp (maxSteps := 2000000) only [↓ctl, evl, val, valP, own, app, wrt, tys, Tryz.ntmps22, Tryz.results22, ↓V_convert, ↓V_bytes, stdl, cond_true, cond_false, Nat.reduceEqDiff, Nat.reduceAdd, Nat.reduceMul, Nat.reduceSub, Nat.reduceLT, Int.reduceEq, Int.reduceLT, Int.reduceLE, Int.reduceNeg, Nat.reduceLeDiff, if_true, if_false, ↓reduceIte, forall_const, implies_true, reduceCtorEq, forall_eq_or_imp, forall_eq, ne_eq]
      rw [wrap_id (by omega) (by omega)]
      rfl
  simp (maxSteps := 2000000) only [↓ctl, evl, val, valP, own, app, wrt, tys, Tryz.ntmps22, Tryz.results22, ↓V_convert, ↓V_bytes, stdl, cond_true, cond_false, Nat.reduceEqDiff, Nat.reduceAdd, Nat.reduceMul, Nat.reduceSub, Nat.reduceLT, Int.reduceEq, Int.reduceLT, Int.reduceLE, Int.reduceNeg, Nat.reduceLeDiff, if_true, if_false, ↓reduceIte, forall_const, implies_true, reduceCtorEq, forall_eq_or_imp, forall_eq, ne_eq, hlt]
  rw [hIs, hx, drop_end _ _ hlt]; rfl
end Go.Proofs.YtobnbajakenbeaaGreat

