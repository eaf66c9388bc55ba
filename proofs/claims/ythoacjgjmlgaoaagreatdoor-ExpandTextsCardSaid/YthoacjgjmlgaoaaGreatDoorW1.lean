/- The layer 50 laws: the functions walked. -/
import Derived.Test.YthoacjgjmlgaoaaGreatDoorD1
set_option linter.unusedVariables false
set_option linter.unusedSimpArgs false
set_option maxRecDepth 8000
namespace Go.Abs.U5Z
open Go.RowKit Go.Proofs

set_option maxHeartbeats 4000000 in
theorem g_F12 {O : Orc} (hS : Sound env O) (hpf : O.pf = pfn) (l1 : List Str) (most2 : Int) (r3 : Bool) (h : F12 l1 most2 = some r3) : Good env 12 [.pv (.slice (List.map PV.str l1)), .pv (.int .i64 most2)] [] [.pv (.bool r3)] [] := by
  refine Good.start (fn := Tryz.f12) (N := 29) fn_12 rfl rfl (by simp) [] _ rfl rfl ?_
  rw [F12] at h
  refine AW.seq ?_
  refine AW.reg hS [(0, .pv (.slice (List.map PV.str l1))), (1, .pv (.int .i64 most2))] [] ?_ ?_
  · simp -implicitDefEqProofs only [RUNS, qindex, Nat.reduceAdd, Nat.reduceLeDiff, Nat.reduceSub, reduceIte, Nat.reduceEqDiff, Nat.reduceLT, reduceCtorEq, Nat.reduceMul, Nat.reduceBEq, Int.reduceEq, if_true, if_false, eq_self, ne_eq, env_bT, P29_eq, Var.pv_eq, P32_eq, GEnv.pv_eq, P41_eq, Redir.pv_eq, P152_eq, Cmd.pv_eq, P42_eq, Word.pv_eq, GValue.pv_eq]
  refine AW.seq ?_
  refine AW.reg hS [(0, .pv (.slice (List.map PV.str l1))), (1, .pv (.int .i64 most2)), (5, .pv (.int .i64 0))] [] ?_ ?_
  · simp -implicitDefEqProofs only [RUNS, qindex, Nat.reduceAdd, Nat.reduceLeDiff, Nat.reduceSub, reduceIte, Nat.reduceEqDiff, Nat.reduceLT, reduceCtorEq, Nat.reduceMul, Nat.reduceBEq, Int.reduceEq, if_true, if_false, eq_self, ne_eq, env_bT, P29_eq, Var.pv_eq, P32_eq, GEnv.pv_eq, P41_eq, Redir.pv_eq, P152_eq, Cmd.pv_eq, P42_eq, Word.pv_eq, GValue.pv_eq]
  refine AW.seq ?_
  refine AW.seq ?_
  refine AW.reg hS [(0, .pv (.slice (List.map PV.str l1))), (1, .pv (.int .i64 most2)), (5, .pv (.int .i64 0)), (8, .pv (.int .i64 (l1.length : Int))), (9, .pv (.int .i64 0))] [] ?_ ?_
  · simp -implicitDefEqProofs only [RUNS, qindex, Nat.reduceAdd, Nat.reduceLeDiff, Nat.reduceSub, reduceIte, Nat.reduceEqDiff, Nat.reduceLT, reduceCtorEq, Nat.reduceMul, Nat.reduceBEq, Int.reduceEq, if_true, if_false, eq_self, ne_eq, env_bT, T_9, T_29, P29_eq, Var.pv_eq, P32_eq, GEnv.pv_eq, P41_eq, Redir.pv_eq, P152_eq, Cmd.pv_eq, P42_eq, Word.pv_eq, GValue.pv_eq]
  refine AW.block ?_
  refine AW.weak (Weak.slots (L := [(0, .pv (.slice (List.map PV.str l1))), (1, .pv (.int .i64 most2)), (5, .pv (.int .i64 0)), (8, .pv (.int .i64 (l1.length : Int))), (9, .pv (.int .i64 0))]) ⟨rfl, rfl, rfl, rfl, rfl, trivial⟩) ?_
  refine AW.loopI (α := Nat × Int × Int) (fun (_, n4, i5) => ⟨sl [(0, .pv (.slice (List.map PV.str l1))), (1, .pv (.int .i64 most2)), (5, .pv (.int .i64 n4)), (8, .pv (.int .i64 (l1.length : Int))), (9, .pv (.int .i64 i5))], 29, []⟩) (fun x => iter (F12_b1 l1 most2) x.1 x.2 = some r3) (fun x => x.1) (BIG, (0, 0)) h ?_
  clear h
  intro ⟨n13, n4, i5⟩ h
  replace h := iter_some h; obtain ⟨m8, rfl, h⟩ := h
  rw [F12_b1] at h
  try dsimp only at h
  show AW _ _ _ _ ⟨sl [(0, .pv (.slice (List.map PV.str l1))), (1, .pv (.int .i64 most2)), (5, .pv (.int .i64 n4)), (8, .pv (.int .i64 (l1.length : Int))), (9, .pv (.int .i64 i5))], 29, []⟩
  refine AW.seq ?_
  refine AW.reg hS [(0, .pv (.slice (List.map PV.str l1))), (1, .pv (.int .i64 most2)), (5, .pv (.int .i64 n4)), (8, .pv (.int .i64 (l1.length : Int))), (9, .pv (.int .i64 i5)), (10, .pv (.bool (decide (i5 < (l1.length : Int)))))] [] ?_ ?_
  · simp -implicitDefEqProofs only [RUNS, qindex, Nat.reduceAdd, Nat.reduceLeDiff, Nat.reduceSub, reduceIte, Nat.reduceEqDiff, Nat.reduceLT, reduceCtorEq, Nat.reduceMul, Nat.reduceBEq, Int.reduceEq, if_true, if_false, eq_self, ne_eq, env_bT, T_3, P29_eq, Var.pv_eq, P32_eq, GEnv.pv_eq, P41_eq, Redir.pv_eq, P152_eq, Cmd.pv_eq, P42_eq, Word.pv_eq, GValue.pv_eq, eqT_3]
  refine AW.seq ?_
  refine AW.cond (b := decide (i5 < (l1.length : Int))) rfl (fun hb9 => ?_) (fun hb9 => ?_)
  · replace h := bif_t hb9 h
    refine AW.skip ?_
    refine AW.seq ?_
    refine AW.block ?_
    refine AW.seq ?_
    refine AW.reg hS [(0, .pv (.slice (List.map PV.str l1))), (1, .pv (.int .i64 most2)), (5, .pv (.int .i64 n4)), (6, .pv (.int .i64 i5)), (8, .pv (.int .i64 (l1.length : Int))), (9, .pv (.int .i64 i5))] [] ?_ ?_
    · simp -implicitDefEqProofs only [RUNS, qindex, Nat.reduceAdd, Nat.reduceLeDiff, Nat.reduceSub, reduceIte, Nat.reduceEqDiff, Nat.reduceLT, reduceCtorEq, Nat.reduceMul, Nat.reduceBEq, Int.reduceEq, if_true, if_false, eq_self, ne_eq, env_bT, P29_eq, Var.pv_eq, P32_eq, GEnv.pv_eq, P41_eq, Redir.pv_eq, P152_eq, Cmd.pv_eq, P42_eq, Word.pv_eq, GValue.pv_eq]
    replace h := Option.bind_eq_some_iff.1 h; obtain ⟨w10, q11, h⟩ := h
    have f12 := lidx_f q11
    refine AW.reg hS [(0, .pv (.slice (List.map PV.str l1))), (1, .pv (.int .i64 most2)), (5, .pv (.int .i64 (IntKind.wrap .i64 (n4 + (imin (w10.length : Int) 1048576))))), (8, .pv (.int .i64 (l1.length : Int))), (9, .pv (.int .i64 i5))] [] ?_ ?_
    · simp -implicitDefEqProofs only [RUNS, qindex, Nat.reduceAdd, Nat.reduceLeDiff, Nat.reduceSub, reduceIte, Nat.reduceEqDiff, Nat.reduceLT, reduceCtorEq, Nat.reduceMul, Nat.reduceBEq, Int.reduceEq, if_true, if_false, eq_self, ne_eq, env_bT, T_3, T_9, T_29, P29_eq, Var.pv_eq, P32_eq, GEnv.pv_eq, P41_eq, Redir.pv_eq, P152_eq, Cmd.pv_eq, P42_eq, Word.pv_eq, GValue.pv_eq, f12.1, f12.2.1, eqT_3]
    refine AW.reg hS [(0, .pv (.slice (List.map PV.str l1))), (1, .pv (.int .i64 most2)), (5, .pv (.int .i64 (IntKind.wrap .i64 (n4 + (imin (w10.length : Int) 1048576))))), (8, .pv (.int .i64 (l1.length : Int))), (9, .pv (.int .i64 (IntKind.wrap .i64 (i5 + 1))))] [] ?_ ?_
    · simp -implicitDefEqProofs only [RUNS, qindex, Nat.reduceAdd, Nat.reduceLeDiff, Nat.reduceSub, reduceIte, Nat.reduceEqDiff, Nat.reduceLT, reduceCtorEq, Nat.reduceMul, Nat.reduceBEq, Int.reduceEq, if_true, if_false, eq_self, ne_eq, env_bT, T_3, P29_eq, Var.pv_eq, P32_eq, GEnv.pv_eq, P41_eq, Redir.pv_eq, P152_eq, Cmd.pv_eq, P42_eq, Word.pv_eq, GValue.pv_eq, eqT_3]
    exact ⟨(m8, (IntKind.wrap .i64 (n4 + (imin (w10.length : Int) 1048576)), IntKind.wrap .i64 (i5 + 1))), h, (Weak.norm (m := 0) (Nat.le_of_ble_eq_true rfl) ⟨rfl, rfl, rfl, rfl, rfl, trivial⟩ rfl rfl rfl), Nat.lt_succ_self _⟩
  · replace h := bif_f hb9 h
    refine AW.exit ?_
    refine AW.seq ?_
    refine AW.reg hS [(4, .pv (.bool (decide (n4 ≤ most2) && decide ((l1.length : Int) ≤ 400))))] [] ?_ ?_
    · clear h
      (simp -implicitDefEqProofs only [RUNS, qindex, Nat.reduceAdd, Nat.reduceLeDiff, Nat.reduceSub, reduceIte, Nat.reduceEqDiff, Nat.reduceLT, reduceCtorEq, Nat.reduceMul, Nat.reduceBEq, Int.reduceEq, if_true, if_false, eq_self, ne_eq, env_bT, T_3, T_9, T_29, P29_eq, Var.pv_eq, P32_eq, GEnv.pv_eq, P41_eq, Redir.pv_eq, P152_eq, Cmd.pv_eq, P42_eq, Word.pv_eq, GValue.pv_eq, eqT_3]); repeat' (split <;> rename_i hb <;> (try simp only [HBS, ge_iff_le, gt_iff_lt] at hb) <;> simp -implicitDefEqProofs only [RUNS, qindex, Nat.reduceAdd, Nat.reduceLeDiff, Nat.reduceSub, reduceIte, Nat.reduceEqDiff, Nat.reduceLT, reduceCtorEq, Nat.reduceMul, Nat.reduceBEq, Int.reduceEq, if_true, if_false, eq_self, ne_eq, env_bT, T_3, T_9, T_29, P29_eq, Var.pv_eq, P32_eq, GEnv.pv_eq, P41_eq, Redir.pv_eq, P152_eq, Cmd.pv_eq, P42_eq, Word.pv_eq, GValue.pv_eq, eqT_3, *, decide_true, decide_false, Decidable.not_not, not_false_eq_true, not_true_eq_false])
      all_goals (first | (simp only [BOOLS]; done) | (simp [*]; done) | ((try simp only [CLOS, beq_iff_eq, bne_iff_ne, ne_eq] at *) <;> omega) | (simp_all; done) | (simp_all <;> omega))
    refine AW.ret ?_
    cases h
    show finish _ _ _ _ _ = _
    first | rfl | (simp [finish, resOf, renArgs, toPV, selObjs, sl])

set_option maxHeartbeats 4000000 in
theorem g_F4 {O : Orc} (hS : Sound env O) (hpf : O.pf = pfn) (c_F12 : C_F12 O) (l1 : List GEnv) (r2 : Bool) (h : F4 l1 = some r2) : Good env 4 [.pv (.slice (List.map GEnv.pv l1))] [] [.pv (.bool r2)] [] := by
  have pf_12 : O.pf 12 = true := by rw [hpf]; rfl
  refine Good.start (fn := Tryz.f4) (N := 55) fn_4 rfl rfl (by simp) [] _ rfl rfl ?_
  rw [F4] at h
  refine AW.seq ?_
  refine AW.reg hS [(0, .pv (.slice (List.map GEnv.pv l1)))] [] ?_ ?_
  · simp -implicitDefEqProofs only [RUNS, qindex, Nat.reduceAdd, Nat.reduceLeDiff, Nat.reduceSub, reduceIte, Nat.reduceEqDiff, Nat.reduceLT, reduceCtorEq, Nat.reduceMul, Nat.reduceBEq, Int.reduceEq, if_true, if_false, eq_self, ne_eq, env_bT, P29_eq, Var.pv_eq, P32_eq, GEnv.pv_eq, P41_eq, Redir.pv_eq, P152_eq, Cmd.pv_eq, P42_eq, Word.pv_eq, GValue.pv_eq]
  refine AW.seq ?_
  refine AW.seq ?_
  refine AW.reg hS [(0, .pv (.slice (List.map GEnv.pv l1))), (7, .pv (.bool (decide (10 < (l1.length : Int)))))] [] ?_ ?_
  · simp -implicitDefEqProofs only [RUNS, qindex, Nat.reduceAdd, Nat.reduceLeDiff, Nat.reduceSub, reduceIte, Nat.reduceEqDiff, Nat.reduceLT, reduceCtorEq, Nat.reduceMul, Nat.reduceBEq, Int.reduceEq, if_true, if_false, eq_self, ne_eq, env_bT, T_3, T_22, T_34, P29_eq, Var.pv_eq, P32_eq, GEnv.pv_eq, P41_eq, Redir.pv_eq, P152_eq, Cmd.pv_eq, P42_eq, Word.pv_eq, GValue.pv_eq, eqT_3]
  refine AW.cond (b := decide (10 < (l1.length : Int))) rfl (fun hb3 => ?_) (fun hb3 => ?_)
  · replace h := bif_t hb3 h
    refine AW.seq ?_
    refine AW.reg hS [(2, .pv (.bool false))] [] ?_ ?_
    · simp -implicitDefEqProofs only [RUNS, qindex, Nat.reduceAdd, Nat.reduceLeDiff, Nat.reduceSub, reduceIte, Nat.reduceEqDiff, Nat.reduceLT, reduceCtorEq, Nat.reduceMul, Nat.reduceBEq, Int.reduceEq, if_true, if_false, eq_self, ne_eq, env_bT, P29_eq, Var.pv_eq, P32_eq, GEnv.pv_eq, P41_eq, Redir.pv_eq, P152_eq, Cmd.pv_eq, P42_eq, Word.pv_eq, GValue.pv_eq]
    refine AW.ret ?_
    cases h
    show finish _ _ _ _ _ = _
    first | rfl | (simp [finish, resOf, renArgs, toPV, selObjs, sl])
  · replace h := bif_f hb3 h
    refine AW.skip ?_
    refine AW.seq ?_
    refine AW.seq ?_
    refine AW.reg hS [(0, .pv (.slice (List.map GEnv.pv l1))), (9, .pv (.int .i64 (l1.length : Int))), (10, .pv (.int .i64 0))] [] ?_ ?_
    · simp -implicitDefEqProofs only [RUNS, qindex, Nat.reduceAdd, Nat.reduceLeDiff, Nat.reduceSub, reduceIte, Nat.reduceEqDiff, Nat.reduceLT, reduceCtorEq, Nat.reduceMul, Nat.reduceBEq, Int.reduceEq, if_true, if_false, eq_self, ne_eq, env_bT, T_22, T_34, P29_eq, Var.pv_eq, P32_eq, GEnv.pv_eq, P41_eq, Redir.pv_eq, P152_eq, Cmd.pv_eq, P42_eq, Word.pv_eq, GValue.pv_eq]
    refine AW.block ?_
    refine AW.weak (Weak.slots (L := [(0, .pv (.slice (List.map GEnv.pv l1))), (9, .pv (.int .i64 (l1.length : Int))), (10, .pv (.int .i64 0))]) ⟨rfl, rfl, rfl, trivial⟩) ?_
    refine AW.loopI (α := Nat × Int) (fun (_, i4) => ⟨sl [(0, .pv (.slice (List.map GEnv.pv l1))), (9, .pv (.int .i64 (l1.length : Int))), (10, .pv (.int .i64 i4))], 55, []⟩) (fun x => iter (F4_b2 l1) x.1 x.2 = some r2) (fun x => x.1) (BIG, 0) h ?_
    clear h
    intro ⟨n26, i4⟩ h
    replace h := iter_some h; obtain ⟨m7, rfl, h⟩ := h
    rw [F4_b2] at h
    try dsimp only at h
    show AW _ _ _ _ ⟨sl [(0, .pv (.slice (List.map GEnv.pv l1))), (9, .pv (.int .i64 (l1.length : Int))), (10, .pv (.int .i64 i4))], 55, []⟩
    refine AW.seq ?_
    refine AW.reg hS [(0, .pv (.slice (List.map GEnv.pv l1))), (9, .pv (.int .i64 (l1.length : Int))), (10, .pv (.int .i64 i4)), (11, .pv (.bool (decide (i4 < (l1.length : Int)))))] [] ?_ ?_
    · simp -implicitDefEqProofs only [RUNS, qindex, Nat.reduceAdd, Nat.reduceLeDiff, Nat.reduceSub, reduceIte, Nat.reduceEqDiff, Nat.reduceLT, reduceCtorEq, Nat.reduceMul, Nat.reduceBEq, Int.reduceEq, if_true, if_false, eq_self, ne_eq, env_bT, T_3, P29_eq, Var.pv_eq, P32_eq, GEnv.pv_eq, P41_eq, Redir.pv_eq, P152_eq, Cmd.pv_eq, P42_eq, Word.pv_eq, GValue.pv_eq, eqT_3]
    refine AW.seq ?_
    refine AW.cond (b := decide (i4 < (l1.length : Int))) rfl (fun hb8 => ?_) (fun hb8 => ?_)
    · replace h := bif_t hb8 h
      refine AW.skip ?_
      refine AW.seq ?_
      refine AW.block ?_
      refine AW.seq ?_
      refine AW.reg hS [(0, .pv (.slice (List.map GEnv.pv l1))), (3, .pv (.int .i64 i4)), (9, .pv (.int .i64 (l1.length : Int))), (10, .pv (.int .i64 i4))] [] ?_ ?_
      · simp -implicitDefEqProofs only [RUNS, qindex, Nat.reduceAdd, Nat.reduceLeDiff, Nat.reduceSub, reduceIte, Nat.reduceEqDiff, Nat.reduceLT, reduceCtorEq, Nat.reduceMul, Nat.reduceBEq, Int.reduceEq, if_true, if_false, eq_self, ne_eq, env_bT, P29_eq, Var.pv_eq, P32_eq, GEnv.pv_eq, P41_eq, Redir.pv_eq, P152_eq, Cmd.pv_eq, P42_eq, Word.pv_eq, GValue.pv_eq]
      refine AW.seq ?_
      refine AW.seq ?_
      replace h := Option.bind_eq_some_iff.1 h; obtain ⟨u9, q10, h⟩ := h
      have f11 := lidx_f q10
      refine AW.reg hS [(0, .pv (.slice (List.map GEnv.pv l1))), (3, .pv (.int .i64 i4)), (9, .pv (.int .i64 (l1.length : Int))), (10, .pv (.int .i64 i4)), (19, .pv (.bool (decide (20 < (u9.vars_.length : Int)))))] [] ?_ ?_
      · simp -implicitDefEqProofs only [RUNS, qindex, Nat.reduceAdd, Nat.reduceLeDiff, Nat.reduceSub, reduceIte, Nat.reduceEqDiff, Nat.reduceLT, reduceCtorEq, Nat.reduceMul, Nat.reduceBEq, Int.reduceEq, if_true, if_false, eq_self, ne_eq, env_bT, T_3, T_22, T_32, T_34, T_37, P29_eq, Var.pv_eq, P32_eq, GEnv.pv_eq, P41_eq, Redir.pv_eq, P152_eq, Cmd.pv_eq, P42_eq, Word.pv_eq, GValue.pv_eq, f11.1, f11.2.1, eqT_3]
      refine AW.cond (b := decide (20 < (u9.vars_.length : Int))) rfl (fun hb12 => ?_) (fun hb12 => ?_)
      · replace h := bif_t hb12 h
        refine AW.seq ?_
        refine AW.reg hS [(2, .pv (.bool false))] [] ?_ ?_
        · simp -implicitDefEqProofs only [RUNS, qindex, Nat.reduceAdd, Nat.reduceLeDiff, Nat.reduceSub, reduceIte, Nat.reduceEqDiff, Nat.reduceLT, reduceCtorEq, Nat.reduceMul, Nat.reduceBEq, Int.reduceEq, if_true, if_false, eq_self, ne_eq, env_bT, P29_eq, Var.pv_eq, P32_eq, GEnv.pv_eq, P41_eq, Redir.pv_eq, P152_eq, Cmd.pv_eq, P42_eq, Word.pv_eq, GValue.pv_eq]
        refine AW.ret ?_
        cases h
        show finish _ _ _ _ _ = _
        first | rfl | (simp [finish, resOf, renArgs, toPV, selObjs, sl])
      · replace h := bif_f hb12 h
        refine AW.skip ?_
        refine AW.seq ?_
        refine AW.reg hS [(0, .pv (.slice (List.map GEnv.pv l1))), (3, .pv (.int .i64 i4)), (9, .pv (.int .i64 (l1.length : Int))), (10, .pv (.int .i64 i4)), (25, .pv (.int .i64 (u9.vars_.length : Int))), (26, .pv (.int .i64 0))] [] ?_ ?_
        · simp -implicitDefEqProofs only [RUNS, qindex, Nat.reduceAdd, Nat.reduceLeDiff, Nat.reduceSub, reduceIte, Nat.reduceEqDiff, Nat.reduceLT, reduceCtorEq, Nat.reduceMul, Nat.reduceBEq, Int.reduceEq, if_true, if_false, eq_self, ne_eq, env_bT, T_22, T_32, T_34, T_37, P29_eq, Var.pv_eq, P32_eq, GEnv.pv_eq, P41_eq, Redir.pv_eq, P152_eq, Cmd.pv_eq, P42_eq, Word.pv_eq, GValue.pv_eq, f11.1, f11.2.1]
        refine AW.block ?_
        refine AW.weak (Weak.slots (L := [(0, .pv (.slice (List.map GEnv.pv l1))), (3, .pv (.int .i64 i4)), (9, .pv (.int .i64 (l1.length : Int))), (10, .pv (.int .i64 i4)), (25, .pv (.int .i64 (u9.vars_.length : Int))), (26, .pv (.int .i64 0))]) ⟨rfl, rfl, rfl, rfl, rfl, rfl, trivial⟩) ?_
        refine AW.loopI (α := Nat × Int) (fun (_, i13) => ⟨sl [(0, .pv (.slice (List.map GEnv.pv l1))), (3, .pv (.int .i64 i4)), (9, .pv (.int .i64 (l1.length : Int))), (10, .pv (.int .i64 i4)), (25, .pv (.int .i64 (u9.vars_.length : Int))), (26, .pv (.int .i64 i13))], 55, []⟩) (fun x => iter (F4_b3 u9 (iter (F4_b2 l1) m7) i4) x.1 x.2 = some r2) (fun x => x.1) (BIG, 0) h ?_
        clear h
        intro ⟨n25, i13⟩ h
        replace h := iter_some h; obtain ⟨m16, rfl, h⟩ := h
        rw [F4_b3] at h
        try dsimp only at h
        show AW _ _ _ _ ⟨sl [(0, .pv (.slice (List.map GEnv.pv l1))), (3, .pv (.int .i64 i4)), (9, .pv (.int .i64 (l1.length : Int))), (10, .pv (.int .i64 i4)), (25, .pv (.int .i64 (u9.vars_.length : Int))), (26, .pv (.int .i64 i13))], 55, []⟩
        refine AW.seq ?_
        refine AW.reg hS [(0, .pv (.slice (List.map GEnv.pv l1))), (3, .pv (.int .i64 i4)), (9, .pv (.int .i64 (l1.length : Int))), (10, .pv (.int .i64 i4)), (25, .pv (.int .i64 (u9.vars_.length : Int))), (26, .pv (.int .i64 i13)), (27, .pv (.bool (decide (i13 < (u9.vars_.length : Int)))))] [] ?_ ?_
        · simp -implicitDefEqProofs only [RUNS, qindex, Nat.reduceAdd, Nat.reduceLeDiff, Nat.reduceSub, reduceIte, Nat.reduceEqDiff, Nat.reduceLT, reduceCtorEq, Nat.reduceMul, Nat.reduceBEq, Int.reduceEq, if_true, if_false, eq_self, ne_eq, env_bT, T_3, P29_eq, Var.pv_eq, P32_eq, GEnv.pv_eq, P41_eq, Redir.pv_eq, P152_eq, Cmd.pv_eq, P42_eq, Word.pv_eq, GValue.pv_eq, eqT_3]
        refine AW.seq ?_
        refine AW.cond (b := decide (i13 < (u9.vars_.length : Int))) rfl (fun hb17 => ?_) (fun hb17 => ?_)
        · replace h := bif_t hb17 h
          refine AW.skip ?_
          refine AW.seq ?_
          refine AW.block ?_
          refine AW.seq ?_
          refine AW.reg hS [(0, .pv (.slice (List.map GEnv.pv l1))), (3, .pv (.int .i64 i4)), (4, .pv (.int .i64 i13)), (9, .pv (.int .i64 (l1.length : Int))), (10, .pv (.int .i64 i4)), (25, .pv (.int .i64 (u9.vars_.length : Int))), (26, .pv (.int .i64 i13))] [] ?_ ?_
          · simp -implicitDefEqProofs only [RUNS, qindex, Nat.reduceAdd, Nat.reduceLeDiff, Nat.reduceSub, reduceIte, Nat.reduceEqDiff, Nat.reduceLT, reduceCtorEq, Nat.reduceMul, Nat.reduceBEq, Int.reduceEq, if_true, if_false, eq_self, ne_eq, env_bT, P29_eq, Var.pv_eq, P32_eq, GEnv.pv_eq, P41_eq, Redir.pv_eq, P152_eq, Cmd.pv_eq, P42_eq, Word.pv_eq, GValue.pv_eq]
          refine AW.seq ?_
          replace h := Option.bind_eq_some_iff.1 h; obtain ⟨u18, q19, h⟩ := h
          have f20 := lidx_f q19
          replace h := Option.bind_eq_some_iff.1 h; obtain ⟨r21, q22, h⟩ := h
          have f23 := c_F12 u18.values_ 2000 r21 q22
          try dsimp only at f23
          refine AW.reg hS [(0, .pv (.slice (List.map GEnv.pv l1))), (3, .pv (.int .i64 i4)), (9, .pv (.int .i64 (l1.length : Int))), (10, .pv (.int .i64 i4)), (25, .pv (.int .i64 (u9.vars_.length : Int))), (26, .pv (.int .i64 i13)), (52, .pv (.bool (!r21 || decide (100 < (u18.name_.length : Int)))))] [] ?_ ?_
          · clear h
            (simp -implicitDefEqProofs only [RUNS, qindex, Nat.reduceAdd, Nat.reduceLeDiff, Nat.reduceSub, reduceIte, Nat.reduceEqDiff, Nat.reduceLT, reduceCtorEq, Nat.reduceMul, Nat.reduceBEq, Int.reduceEq, if_true, if_false, eq_self, ne_eq, env_bT, T_3, T_9, T_22, T_29, T_32, T_34, T_37, P29_eq, Var.pv_eq, P32_eq, GEnv.pv_eq, P41_eq, Redir.pv_eq, P152_eq, Cmd.pv_eq, P42_eq, Word.pv_eq, GValue.pv_eq, f11.1, f11.2.1, f20.1, f20.2.1, pf_12, f23, eqT_3]); repeat' (split <;> rename_i hb <;> (try simp only [HBS, ge_iff_le, gt_iff_lt] at hb) <;> simp -implicitDefEqProofs only [RUNS, qindex, Nat.reduceAdd, Nat.reduceLeDiff, Nat.reduceSub, reduceIte, Nat.reduceEqDiff, Nat.reduceLT, reduceCtorEq, Nat.reduceMul, Nat.reduceBEq, Int.reduceEq, if_true, if_false, eq_self, ne_eq, env_bT, T_3, T_9, T_22, T_29, T_32, T_34, T_37, P29_eq, Var.pv_eq, P32_eq, GEnv.pv_eq, P41_eq, Redir.pv_eq, P152_eq, Cmd.pv_eq, P42_eq, Word.pv_eq, GValue.pv_eq, f11.1, f11.2.1, f20.1, f20.2.1, pf_12, f23, eqT_3, *, decide_true, decide_false, Decidable.not_not, not_false_eq_true, not_true_eq_false])
            all_goals (first | (simp only [BOOLS]; done) | (simp [*]; done) | ((try simp only [CLOS, beq_iff_eq, bne_iff_ne, ne_eq] at *) <;> omega) | (simp_all; done) | (simp_all <;> omega))
          refine AW.cond (b := (!r21 || decide (100 < (u18.name_.length : Int)))) rfl (fun hb24 => ?_) (fun hb24 => ?_)
          · replace h := bif_t hb24 h
            refine AW.seq ?_
            refine AW.reg hS [(2, .pv (.bool false))] [] ?_ ?_
            · simp -implicitDefEqProofs only [RUNS, qindex, Nat.reduceAdd, Nat.reduceLeDiff, Nat.reduceSub, reduceIte, Nat.reduceEqDiff, Nat.reduceLT, reduceCtorEq, Nat.reduceMul, Nat.reduceBEq, Int.reduceEq, if_true, if_false, eq_self, ne_eq, env_bT, P29_eq, Var.pv_eq, P32_eq, GEnv.pv_eq, P41_eq, Redir.pv_eq, P152_eq, Cmd.pv_eq, P42_eq, Word.pv_eq, GValue.pv_eq]
            refine AW.ret ?_
            cases h
            show finish _ _ _ _ _ = _
            first | rfl | (simp [finish, resOf, renArgs, toPV, selObjs, sl])
          · replace h := bif_f hb24 h
            refine AW.skip ?_
            refine AW.reg hS [(0, .pv (.slice (List.map GEnv.pv l1))), (3, .pv (.int .i64 i4)), (9, .pv (.int .i64 (l1.length : Int))), (10, .pv (.int .i64 i4)), (25, .pv (.int .i64 (u9.vars_.length : Int))), (26, .pv (.int .i64 (IntKind.wrap .i64 (i13 + 1))))] [] ?_ ?_
            · simp -implicitDefEqProofs only [RUNS, qindex, Nat.reduceAdd, Nat.reduceLeDiff, Nat.reduceSub, reduceIte, Nat.reduceEqDiff, Nat.reduceLT, reduceCtorEq, Nat.reduceMul, Nat.reduceBEq, Int.reduceEq, if_true, if_false, eq_self, ne_eq, env_bT, T_3, P29_eq, Var.pv_eq, P32_eq, GEnv.pv_eq, P41_eq, Redir.pv_eq, P152_eq, Cmd.pv_eq, P42_eq, Word.pv_eq, GValue.pv_eq, eqT_3]
            exact ⟨(m16, IntKind.wrap .i64 (i13 + 1)), h, (Weak.norm (m := 0) (Nat.le_of_ble_eq_true rfl) ⟨rfl, rfl, rfl, rfl, rfl, rfl, trivial⟩ rfl rfl rfl), Nat.lt_succ_self _⟩
        · replace h := bif_f hb17 h
          refine AW.exit ?_
          refine AW.reg hS [(0, .pv (.slice (List.map GEnv.pv l1))), (9, .pv (.int .i64 (l1.length : Int))), (10, .pv (.int .i64 (IntKind.wrap .i64 (i4 + 1))))] [] ?_ ?_
          · simp -implicitDefEqProofs only [RUNS, qindex, Nat.reduceAdd, Nat.reduceLeDiff, Nat.reduceSub, reduceIte, Nat.reduceEqDiff, Nat.reduceLT, reduceCtorEq, Nat.reduceMul, Nat.reduceBEq, Int.reduceEq, if_true, if_false, eq_self, ne_eq, env_bT, T_3, P29_eq, Var.pv_eq, P32_eq, GEnv.pv_eq, P41_eq, Redir.pv_eq, P152_eq, Cmd.pv_eq, P42_eq, Word.pv_eq, GValue.pv_eq, eqT_3]
          exact ⟨(m7, IntKind.wrap .i64 (i4 + 1)), h, (Weak.norm (m := 0) (Nat.le_of_ble_eq_true rfl) ⟨rfl, rfl, rfl, trivial⟩ rfl rfl rfl), Nat.lt_succ_self _⟩
    · replace h := bif_f hb8 h
      refine AW.exit ?_
      refine AW.seq ?_
      refine AW.reg hS [(2, .pv (.bool true))] [] ?_ ?_
      · simp -implicitDefEqProofs only [RUNS, qindex, Nat.reduceAdd, Nat.reduceLeDiff, Nat.reduceSub, reduceIte, Nat.reduceEqDiff, Nat.reduceLT, reduceCtorEq, Nat.reduceMul, Nat.reduceBEq, Int.reduceEq, if_true, if_false, eq_self, ne_eq, env_bT, P29_eq, Var.pv_eq, P32_eq, GEnv.pv_eq, P41_eq, Redir.pv_eq, P152_eq, Cmd.pv_eq, P42_eq, Word.pv_eq, GValue.pv_eq]
      refine AW.ret ?_
      cases h
      show finish _ _ _ _ _ = _
      first | rfl | (simp [finish, resOf, renArgs, toPV, selObjs, sl])

set_option maxHeartbeats 4000000 in
theorem g_F13 {O : Orc} (hS : Sound env O) (hpf : O.pf = pfn) (values1 : List Str) (r2 : Str) (r3 : Int) (h : F13 values1 = some (r2, r3)) : Good env 13 [.pv (.slice (List.map PV.str values1))] [] [.pv (.str r2), .pv (.int .i64 r3)] [] := by
  refine Good.start (fn := Tryz.f13) (N := 49) fn_13 rfl rfl (by simp) [] _ rfl rfl ?_
  rw [F13] at h
  refine AW.seq ?_
  refine AW.reg hS [(0, .pv (.slice (List.map PV.str values1)))] [] ?_ ?_
  · simp -implicitDefEqProofs only [RUNS, qindex, Nat.reduceAdd, Nat.reduceLeDiff, Nat.reduceSub, reduceIte, Nat.reduceEqDiff, Nat.reduceLT, reduceCtorEq, Nat.reduceMul, Nat.reduceBEq, Int.reduceEq, if_true, if_false, eq_self, ne_eq, env_bT, P29_eq, Var.pv_eq, P32_eq, GEnv.pv_eq, P41_eq, Redir.pv_eq, P152_eq, Cmd.pv_eq, P42_eq, Word.pv_eq, GValue.pv_eq]
  refine AW.seq ?_
  refine AW.seq ?_
  refine AW.reg hS [(0, .pv (.slice (List.map PV.str values1))), (9, .pv (.bool (decide ((values1.length : Int) = 0))))] [] ?_ ?_
  · simp -implicitDefEqProofs only [RUNS, qindex, Nat.reduceAdd, Nat.reduceLeDiff, Nat.reduceSub, reduceIte, Nat.reduceEqDiff, Nat.reduceLT, reduceCtorEq, Nat.reduceMul, Nat.reduceBEq, Int.reduceEq, if_true, if_false, eq_self, ne_eq, env_bT, T_3, T_9, T_29, P29_eq, Var.pv_eq, P32_eq, GEnv.pv_eq, P41_eq, Redir.pv_eq, P152_eq, Cmd.pv_eq, P42_eq, Word.pv_eq, GValue.pv_eq, eqT_3]
  refine AW.cond (b := decide ((values1.length : Int) = 0)) rfl (fun hb4 => ?_) (fun hb4 => ?_)
  · replace h := bif_t hb4 h
    refine AW.seq ?_
    refine AW.reg hS [(2, .pv (.str [])), (3, .pv (.int .i64 1))] [] ?_ ?_
    · simp -implicitDefEqProofs only [RUNS, qindex, Nat.reduceAdd, Nat.reduceLeDiff, Nat.reduceSub, reduceIte, Nat.reduceEqDiff, Nat.reduceLT, reduceCtorEq, Nat.reduceMul, Nat.reduceBEq, Int.reduceEq, if_true, if_false, eq_self, ne_eq, env_bT, P29_eq, Var.pv_eq, P32_eq, GEnv.pv_eq, P41_eq, Redir.pv_eq, P152_eq, Cmd.pv_eq, P42_eq, Word.pv_eq, GValue.pv_eq]
    refine AW.ret ?_
    cases h
    show finish _ _ _ _ _ = _
    first | rfl | (simp [finish, resOf, renArgs, toPV, selObjs, sl])
  · replace h := bif_f hb4 h
    refine AW.skip ?_
    refine AW.seq ?_
    refine AW.seq ?_
    refine AW.reg hS [(0, .pv (.slice (List.map PV.str values1))), (12, .pv (.bool (decide (256 < (values1.length : Int)))))] [] ?_ ?_
    · simp -implicitDefEqProofs only [RUNS, qindex, Nat.reduceAdd, Nat.reduceLeDiff, Nat.reduceSub, reduceIte, Nat.reduceEqDiff, Nat.reduceLT, reduceCtorEq, Nat.reduceMul, Nat.reduceBEq, Int.reduceEq, if_true, if_false, eq_self, ne_eq, env_bT, T_3, T_9, T_29, P29_eq, Var.pv_eq, P32_eq, GEnv.pv_eq, P41_eq, Redir.pv_eq, P152_eq, Cmd.pv_eq, P42_eq, Word.pv_eq, GValue.pv_eq, eqT_3]
    refine AW.cond (b := decide (256 < (values1.length : Int))) rfl (fun hb5 => ?_) (fun hb5 => ?_)
    · replace h := bif_t hb5 h
      refine AW.seq ?_
      refine AW.reg hS [(2, .pv (.str [])), (3, .pv (.int .i64 22))] [] ?_ ?_
      · simp -implicitDefEqProofs only [RUNS, qindex, Nat.reduceAdd, Nat.reduceLeDiff, Nat.reduceSub, reduceIte, Nat.reduceEqDiff, Nat.reduceLT, reduceCtorEq, Nat.reduceMul, Nat.reduceBEq, Int.reduceEq, if_true, if_false, eq_self, ne_eq, env_bT, P29_eq, Var.pv_eq, P32_eq, GEnv.pv_eq, P41_eq, Redir.pv_eq, P152_eq, Cmd.pv_eq, P42_eq, Word.pv_eq, GValue.pv_eq]
      refine AW.ret ?_
      cases h
      show finish _ _ _ _ _ = _
      first | rfl | (simp [finish, resOf, renArgs, toPV, selObjs, sl])
    · replace h := bif_f hb5 h
      refine AW.skip ?_
      refine AW.seq ?_
      refine AW.reg hS [(0, .pv (.slice (List.map PV.str values1))), (4, .pv (.str []))] [] ?_ ?_
      · simp -implicitDefEqProofs only [RUNS, qindex, Nat.reduceAdd, Nat.reduceLeDiff, Nat.reduceSub, reduceIte, Nat.reduceEqDiff, Nat.reduceLT, reduceCtorEq, Nat.reduceMul, Nat.reduceBEq, Int.reduceEq, if_true, if_false, eq_self, ne_eq, env_bT, P29_eq, Var.pv_eq, P32_eq, GEnv.pv_eq, P41_eq, Redir.pv_eq, P152_eq, Cmd.pv_eq, P42_eq, Word.pv_eq, GValue.pv_eq]
      refine AW.seq ?_
      refine AW.seq ?_
      refine AW.reg hS [(0, .pv (.slice (List.map PV.str values1))), (4, .pv (.str [])), (5, .pv (.int .i64 0))] [] ?_ ?_
      · simp -implicitDefEqProofs only [RUNS, qindex, Nat.reduceAdd, Nat.reduceLeDiff, Nat.reduceSub, reduceIte, Nat.reduceEqDiff, Nat.reduceLT, reduceCtorEq, Nat.reduceMul, Nat.reduceBEq, Int.reduceEq, if_true, if_false, eq_self, ne_eq, env_bT, P29_eq, Var.pv_eq, P32_eq, GEnv.pv_eq, P41_eq, Redir.pv_eq, P152_eq, Cmd.pv_eq, P42_eq, Word.pv_eq, GValue.pv_eq]
      refine AW.block ?_
      refine AW.weak (Weak.slots (L := [(0, .pv (.slice (List.map PV.str values1))), (4, .pv (.str [])), (5, .pv (.int .i64 0))]) ⟨rfl, rfl, rfl, trivial⟩) ?_
      refine AW.loopI (α := Nat × Str × Int) (fun (_, s6, i7) => ⟨sl [(0, .pv (.slice (List.map PV.str values1))), (4, .pv (.str s6)), (5, .pv (.int .i64 i7))], 49, []⟩) (fun x => iter (F13_b2 values1) x.1 x.2 = some (r2, r3)) (fun x => x.1) (BIG, ([], 0)) h ?_
      clear h
      intro ⟨n36, s6, i7⟩ h
      replace h := iter_some h; obtain ⟨m10, rfl, h⟩ := h
      rw [F13_b2] at h
      try dsimp only at h
      show AW _ _ _ _ ⟨sl [(0, .pv (.slice (List.map PV.str values1))), (4, .pv (.str s6)), (5, .pv (.int .i64 i7))], 49, []⟩
      refine AW.seq ?_
      refine AW.seq ?_
      refine AW.reg hS [(0, .pv (.slice (List.map PV.str values1))), (4, .pv (.str s6)), (5, .pv (.int .i64 i7)), (16, .pv (.bool (decide (i7 < (values1.length : Int)))))] [] ?_ ?_
      · simp -implicitDefEqProofs only [RUNS, qindex, Nat.reduceAdd, Nat.reduceLeDiff, Nat.reduceSub, reduceIte, Nat.reduceEqDiff, Nat.reduceLT, reduceCtorEq, Nat.reduceMul, Nat.reduceBEq, Int.reduceEq, if_true, if_false, eq_self, ne_eq, env_bT, T_3, T_9, T_29, P29_eq, Var.pv_eq, P32_eq, GEnv.pv_eq, P41_eq, Redir.pv_eq, P152_eq, Cmd.pv_eq, P42_eq, Word.pv_eq, GValue.pv_eq, eqT_3]
      refine AW.cond (b := decide (i7 < (values1.length : Int))) rfl (fun hb11 => ?_) (fun hb11 => ?_)
      · replace h := bif_t hb11 h
        refine AW.skip ?_
        refine AW.seq ?_
        refine AW.block ?_
        refine AW.seq ?_
        refine AW.seq ?_
        refine AW.reg hS [(0, .pv (.slice (List.map PV.str values1))), (4, .pv (.str s6)), (5, .pv (.int .i64 i7)), (6, .pv (.int .i64 0))] [] ?_ ?_
        · simp -implicitDefEqProofs only [RUNS, qindex, Nat.reduceAdd, Nat.reduceLeDiff, Nat.reduceSub, reduceIte, Nat.reduceEqDiff, Nat.reduceLT, reduceCtorEq, Nat.reduceMul, Nat.reduceBEq, Int.reduceEq, if_true, if_false, eq_self, ne_eq, env_bT, P29_eq, Var.pv_eq, P32_eq, GEnv.pv_eq, P41_eq, Redir.pv_eq, P152_eq, Cmd.pv_eq, P42_eq, Word.pv_eq, GValue.pv_eq]
        refine AW.block ?_
        refine AW.weak (Weak.slots (L := [(0, .pv (.slice (List.map PV.str values1))), (4, .pv (.str s6)), (5, .pv (.int .i64 i7)), (6, .pv (.int .i64 0))]) ⟨rfl, rfl, rfl, rfl, trivial⟩) ?_
        refine AW.loopI (α := Nat × Int) (fun (_, k12) => ⟨sl [(0, .pv (.slice (List.map PV.str values1))), (4, .pv (.str s6)), (5, .pv (.int .i64 i7)), (6, .pv (.int .i64 k12))], 49, []⟩) (fun x => iter (F13_b3 values1 i7 s6 (iter (F13_b2 values1) m10)) x.1 x.2 = some (r2, r3)) (fun x => x.1) (BIG, 0) h ?_
        clear h
        intro ⟨n34, k12⟩ h
        replace h := iter_some h; obtain ⟨m15, rfl, h⟩ := h
        rw [F13_b3] at h
        try dsimp only at h
        show AW _ _ _ _ ⟨sl [(0, .pv (.slice (List.map PV.str values1))), (4, .pv (.str s6)), (5, .pv (.int .i64 i7)), (6, .pv (.int .i64 k12))], 49, []⟩
        refine AW.seq ?_
        refine AW.seq ?_
        replace h := Option.bind_eq_some_iff.1 h; obtain ⟨w16, q17, h⟩ := h
        have f18 := lidx_f q17
        refine AW.reg hS [(0, .pv (.slice (List.map PV.str values1))), (4, .pv (.str s6)), (5, .pv (.int .i64 i7)), (6, .pv (.int .i64 k12)), (25, .pv (.bool (decide (k12 < (w16.length : Int)))))] [] ?_ ?_
        · simp -implicitDefEqProofs only [RUNS, qindex, Nat.reduceAdd, Nat.reduceLeDiff, Nat.reduceSub, reduceIte, Nat.reduceEqDiff, Nat.reduceLT, reduceCtorEq, Nat.reduceMul, Nat.reduceBEq, Int.reduceEq, if_true, if_false, eq_self, ne_eq, env_bT, T_3, T_9, T_29, P29_eq, Var.pv_eq, P32_eq, GEnv.pv_eq, P41_eq, Redir.pv_eq, P152_eq, Cmd.pv_eq, P42_eq, Word.pv_eq, GValue.pv_eq, f18.1, f18.2.1, eqT_3]
        refine AW.cond (b := decide (k12 < (w16.length : Int))) rfl (fun hb19 => ?_) (fun hb19 => ?_)
        · replace h := bif_t hb19 h
          refine AW.skip ?_
          refine AW.seq ?_
          refine AW.block ?_
          refine AW.seq ?_
          replace h := Option.bind_eq_some_iff.1 h; obtain ⟨c20, q21, h⟩ := h
          have f22 := sidx_f q21
          refine AW.reg hS [(0, .pv (.slice (List.map PV.str values1))), (4, .pv (.str s6)), (5, .pv (.int .i64 i7)), (6, .pv (.int .i64 k12)), (34, .pv (.bool (decide (c20 = 0))))] [] ?_ ?_
          · simp -implicitDefEqProofs only [RUNS, qindex, Nat.reduceAdd, Nat.reduceLeDiff, Nat.reduceSub, reduceIte, Nat.reduceEqDiff, Nat.reduceLT, reduceCtorEq, Nat.reduceMul, Nat.reduceBEq, Int.reduceEq, if_true, if_false, eq_self, ne_eq, env_bT, T_5, T_9, T_29, P29_eq, Var.pv_eq, P32_eq, GEnv.pv_eq, P41_eq, Redir.pv_eq, P152_eq, Cmd.pv_eq, P42_eq, Word.pv_eq, GValue.pv_eq, f18.1, f18.2.1, f22.1, f22.2.1, f22.2.2, eqT_5]
          refine AW.cond (b := decide (c20 = 0)) rfl (fun hb23 => ?_) (fun hb23 => ?_)
          · replace h := bif_t hb23 h
            refine AW.seq ?_
            refine AW.reg hS [(2, .pv (.str [])), (3, .pv (.int .i64 2))] [] ?_ ?_
            · simp -implicitDefEqProofs only [RUNS, qindex, Nat.reduceAdd, Nat.reduceLeDiff, Nat.reduceSub, reduceIte, Nat.reduceEqDiff, Nat.reduceLT, reduceCtorEq, Nat.reduceMul, Nat.reduceBEq, Int.reduceEq, if_true, if_false, eq_self, ne_eq, env_bT, P29_eq, Var.pv_eq, P32_eq, GEnv.pv_eq, P41_eq, Redir.pv_eq, P152_eq, Cmd.pv_eq, P42_eq, Word.pv_eq, GValue.pv_eq]
            refine AW.ret ?_
            cases h
            show finish _ _ _ _ _ = _
            first | rfl | (simp [finish, resOf, renArgs, toPV, selObjs, sl])
          · replace h := bif_f hb23 h
            refine AW.skip ?_
            refine AW.reg hS [(0, .pv (.slice (List.map PV.str values1))), (4, .pv (.str s6)), (5, .pv (.int .i64 i7)), (6, .pv (.int .i64 (IntKind.wrap .i64 (k12 + 1))))] [] ?_ ?_
            · simp -implicitDefEqProofs only [RUNS, qindex, Nat.reduceAdd, Nat.reduceLeDiff, Nat.reduceSub, reduceIte, Nat.reduceEqDiff, Nat.reduceLT, reduceCtorEq, Nat.reduceMul, Nat.reduceBEq, Int.reduceEq, if_true, if_false, eq_self, ne_eq, env_bT, T_3, P29_eq, Var.pv_eq, P32_eq, GEnv.pv_eq, P41_eq, Redir.pv_eq, P152_eq, Cmd.pv_eq, P42_eq, Word.pv_eq, GValue.pv_eq, eqT_3]
            exact ⟨(m15, IntKind.wrap .i64 (k12 + 1)), h, (Weak.norm (m := 0) (Nat.le_of_ble_eq_true rfl) ⟨rfl, rfl, rfl, rfl, trivial⟩ rfl rfl rfl), Nat.lt_succ_self _⟩
        · replace h := bif_f hb19 h
          refine AW.exit ?_
          refine AW.seq ?_
          refine AW.seq ?_
          refine AW.reg hS [(0, .pv (.slice (List.map PV.str values1))), (4, .pv (.str s6)), (5, .pv (.int .i64 i7)), (36, .pv (.bool (decide (0 < i7))))] [] ?_ ?_
          · simp -implicitDefEqProofs only [RUNS, qindex, Nat.reduceAdd, Nat.reduceLeDiff, Nat.reduceSub, reduceIte, Nat.reduceEqDiff, Nat.reduceLT, reduceCtorEq, Nat.reduceMul, Nat.reduceBEq, Int.reduceEq, if_true, if_false, eq_self, ne_eq, env_bT, T_3, P29_eq, Var.pv_eq, P32_eq, GEnv.pv_eq, P41_eq, Redir.pv_eq, P152_eq, Cmd.pv_eq, P42_eq, Word.pv_eq, GValue.pv_eq, eqT_3]
          refine AW.cond (b := decide (0 < i7)) rfl (fun hb24 => ?_) (fun hb24 => ?_)
          · replace h := bif_t hb24 h
            replace h := Option.bind_eq_some_iff.1 h; obtain ⟨s25, q26, h⟩ := h
            have f27 := catO_f q26
            try simp only [List.length_cons, List.length_nil, Nat.zero_add, Nat.reduceAdd, Nat.reduceLeDiff, Nat.add_zero, Nat.reduceMul] at f27
            refine AW.reg hS [(0, .pv (.slice (List.map PV.str values1))), (4, .pv (.str s25)), (5, .pv (.int .i64 i7))] [] ?_ ?_
            · simp -implicitDefEqProofs only [RUNS, qindex, Nat.reduceAdd, Nat.reduceLeDiff, Nat.reduceSub, reduceIte, Nat.reduceEqDiff, Nat.reduceLT, reduceCtorEq, Nat.reduceMul, Nat.reduceBEq, Int.reduceEq, if_true, if_false, eq_self, ne_eq, env_bT, T_9, P29_eq, Var.pv_eq, P32_eq, GEnv.pv_eq, P41_eq, Redir.pv_eq, P152_eq, Cmd.pv_eq, P42_eq, Word.pv_eq, GValue.pv_eq, eqT_9, f27.1, f27.2]
            replace h := Option.bind_eq_some_iff.1 h; obtain ⟨s28, q29, h⟩ := h
            have f30 := catO_f q29
            try simp only [List.length_cons, List.length_nil, Nat.zero_add, Nat.reduceAdd, Nat.reduceLeDiff, Nat.add_zero, Nat.reduceMul] at f30
            refine AW.reg hS [(0, .pv (.slice (List.map PV.str values1))), (4, .pv (.str s28)), (5, .pv (.int .i64 i7))] [] ?_ ?_
            · simp -implicitDefEqProofs only [RUNS, qindex, Nat.reduceAdd, Nat.reduceLeDiff, Nat.reduceSub, reduceIte, Nat.reduceEqDiff, Nat.reduceLT, reduceCtorEq, Nat.reduceMul, Nat.reduceBEq, Int.reduceEq, if_true, if_false, eq_self, ne_eq, env_bT, T_9, T_29, P29_eq, Var.pv_eq, P32_eq, GEnv.pv_eq, P41_eq, Redir.pv_eq, P152_eq, Cmd.pv_eq, P42_eq, Word.pv_eq, GValue.pv_eq, f18.1, f18.2.1, eqT_9, f30.1, f30.2]
            refine AW.reg hS [(0, .pv (.slice (List.map PV.str values1))), (4, .pv (.str s28)), (5, .pv (.int .i64 (IntKind.wrap .i64 (i7 + 1))))] [] ?_ ?_
            · simp -implicitDefEqProofs only [RUNS, qindex, Nat.reduceAdd, Nat.reduceLeDiff, Nat.reduceSub, reduceIte, Nat.reduceEqDiff, Nat.reduceLT, reduceCtorEq, Nat.reduceMul, Nat.reduceBEq, Int.reduceEq, if_true, if_false, eq_self, ne_eq, env_bT, T_3, P29_eq, Var.pv_eq, P32_eq, GEnv.pv_eq, P41_eq, Redir.pv_eq, P152_eq, Cmd.pv_eq, P42_eq, Word.pv_eq, GValue.pv_eq, eqT_3]
            exact ⟨(m10, (s28, IntKind.wrap .i64 (i7 + 1))), h, (Weak.norm (m := 0) (Nat.le_of_ble_eq_true rfl) ⟨rfl, rfl, rfl, trivial⟩ rfl rfl rfl), Nat.lt_succ_self _⟩
          · replace h := bif_f hb24 h
            refine AW.skip ?_
            replace h := Option.bind_eq_some_iff.1 h; obtain ⟨s31, q32, h⟩ := h
            have f33 := catO_f q32
            try simp only [List.length_cons, List.length_nil, Nat.zero_add, Nat.reduceAdd, Nat.reduceLeDiff, Nat.add_zero, Nat.reduceMul] at f33
            refine AW.reg hS [(0, .pv (.slice (List.map PV.str values1))), (4, .pv (.str s31)), (5, .pv (.int .i64 i7))] [] ?_ ?_
            · simp -implicitDefEqProofs only [RUNS, qindex, Nat.reduceAdd, Nat.reduceLeDiff, Nat.reduceSub, reduceIte, Nat.reduceEqDiff, Nat.reduceLT, reduceCtorEq, Nat.reduceMul, Nat.reduceBEq, Int.reduceEq, if_true, if_false, eq_self, ne_eq, env_bT, T_9, T_29, P29_eq, Var.pv_eq, P32_eq, GEnv.pv_eq, P41_eq, Redir.pv_eq, P152_eq, Cmd.pv_eq, P42_eq, Word.pv_eq, GValue.pv_eq, f18.1, f18.2.1, eqT_9, f33.1, f33.2]
            refine AW.reg hS [(0, .pv (.slice (List.map PV.str values1))), (4, .pv (.str s31)), (5, .pv (.int .i64 (IntKind.wrap .i64 (i7 + 1))))] [] ?_ ?_
            · simp -implicitDefEqProofs only [RUNS, qindex, Nat.reduceAdd, Nat.reduceLeDiff, Nat.reduceSub, reduceIte, Nat.reduceEqDiff, Nat.reduceLT, reduceCtorEq, Nat.reduceMul, Nat.reduceBEq, Int.reduceEq, if_true, if_false, eq_self, ne_eq, env_bT, T_3, P29_eq, Var.pv_eq, P32_eq, GEnv.pv_eq, P41_eq, Redir.pv_eq, P152_eq, Cmd.pv_eq, P42_eq, Word.pv_eq, GValue.pv_eq, eqT_3]
            exact ⟨(m10, (s31, IntKind.wrap .i64 (i7 + 1))), h, (Weak.norm (m := 0) (Nat.le_of_ble_eq_true rfl) ⟨rfl, rfl, rfl, trivial⟩ rfl rfl rfl), Nat.lt_succ_self _⟩
      · replace h := bif_f hb11 h
        refine AW.exit ?_
        refine AW.seq ?_
        refine AW.seq ?_
        refine AW.reg hS [(4, .pv (.str s6)), (47, .pv (.bool (decide (65536 < (s6.length : Int)))))] [] ?_ ?_
        · simp -implicitDefEqProofs only [RUNS, qindex, Nat.reduceAdd, Nat.reduceLeDiff, Nat.reduceSub, reduceIte, Nat.reduceEqDiff, Nat.reduceLT, reduceCtorEq, Nat.reduceMul, Nat.reduceBEq, Int.reduceEq, if_true, if_false, eq_self, ne_eq, env_bT, T_3, T_9, P29_eq, Var.pv_eq, P32_eq, GEnv.pv_eq, P41_eq, Redir.pv_eq, P152_eq, Cmd.pv_eq, P42_eq, Word.pv_eq, GValue.pv_eq, eqT_3]
        refine AW.cond (b := decide (65536 < (s6.length : Int))) rfl (fun hb35 => ?_) (fun hb35 => ?_)
        · replace h := bif_t hb35 h
          refine AW.seq ?_
          refine AW.reg hS [(2, .pv (.str [])), (3, .pv (.int .i64 4))] [] ?_ ?_
          · simp -implicitDefEqProofs only [RUNS, qindex, Nat.reduceAdd, Nat.reduceLeDiff, Nat.reduceSub, reduceIte, Nat.reduceEqDiff, Nat.reduceLT, reduceCtorEq, Nat.reduceMul, Nat.reduceBEq, Int.reduceEq, if_true, if_false, eq_self, ne_eq, env_bT, P29_eq, Var.pv_eq, P32_eq, GEnv.pv_eq, P41_eq, Redir.pv_eq, P152_eq, Cmd.pv_eq, P42_eq, Word.pv_eq, GValue.pv_eq]
          refine AW.ret ?_
          cases h
          show finish _ _ _ _ _ = _
          first | rfl | (simp [finish, resOf, renArgs, toPV, selObjs, sl])
        · replace h := bif_f hb35 h
          refine AW.skip ?_
          refine AW.seq ?_
          refine AW.reg hS [(2, .pv (.str s6)), (3, .pv (.int .i64 0))] [] ?_ ?_
          · simp -implicitDefEqProofs only [RUNS, qindex, Nat.reduceAdd, Nat.reduceLeDiff, Nat.reduceSub, reduceIte, Nat.reduceEqDiff, Nat.reduceLT, reduceCtorEq, Nat.reduceMul, Nat.reduceBEq, Int.reduceEq, if_true, if_false, eq_self, ne_eq, env_bT, P29_eq, Var.pv_eq, P32_eq, GEnv.pv_eq, P41_eq, Redir.pv_eq, P152_eq, Cmd.pv_eq, P42_eq, Word.pv_eq, GValue.pv_eq]
          refine AW.ret ?_
          cases h
          show finish _ _ _ _ _ = _
          first | rfl | (simp [finish, resOf, renArgs, toPV, selObjs, sl])

set_option maxHeartbeats 4000000 in
theorem g_F14 {O : Orc} (hS : Sound env O) (hpf : O.pf = pfn) (name1 : Str) (r2 : Bool) (h : F14 name1 = some r2) : Good env 14 [.pv (.str name1)] [] [.pv (.bool r2)] [] := by
  refine Good.start (fn := Tryz.f14) (N := 42) fn_14 rfl rfl (by simp) [] _ rfl rfl ?_
  rw [F14] at h
  refine AW.seq ?_
  refine AW.reg hS [(0, .pv (.str name1))] [] ?_ ?_
  · simp -implicitDefEqProofs only [RUNS, qindex, Nat.reduceAdd, Nat.reduceLeDiff, Nat.reduceSub, reduceIte, Nat.reduceEqDiff, Nat.reduceLT, reduceCtorEq, Nat.reduceMul, Nat.reduceBEq, Int.reduceEq, if_true, if_false, eq_self, ne_eq, env_bT, P29_eq, Var.pv_eq, P32_eq, GEnv.pv_eq, P41_eq, Redir.pv_eq, P152_eq, Cmd.pv_eq, P42_eq, Word.pv_eq, GValue.pv_eq]
  refine AW.seq ?_
  refine AW.seq ?_
  refine AW.reg hS [(0, .pv (.str name1)), (3, .pv (.int .i64 0))] [] ?_ ?_
  · simp -implicitDefEqProofs only [RUNS, qindex, Nat.reduceAdd, Nat.reduceLeDiff, Nat.reduceSub, reduceIte, Nat.reduceEqDiff, Nat.reduceLT, reduceCtorEq, Nat.reduceMul, Nat.reduceBEq, Int.reduceEq, if_true, if_false, eq_self, ne_eq, env_bT, P29_eq, Var.pv_eq, P32_eq, GEnv.pv_eq, P41_eq, Redir.pv_eq, P152_eq, Cmd.pv_eq, P42_eq, Word.pv_eq, GValue.pv_eq]
  refine AW.block ?_
  refine AW.weak (Weak.slots (L := [(0, .pv (.str name1)), (3, .pv (.int .i64 0))]) ⟨rfl, rfl, trivial⟩) ?_
  refine AW.loopI (α := Nat × Int) (fun (_, i3) => ⟨sl [(0, .pv (.str name1)), (3, .pv (.int .i64 i3))], 42, []⟩) (fun x => iter (F14_b1 name1) x.1 x.2 = some r2) (fun x => x.1) (BIG, 0) h ?_
  clear h
  intro ⟨n12, i3⟩ h
  replace h := iter_some h; obtain ⟨m6, rfl, h⟩ := h
  rw [F14_b1] at h
  try dsimp only at h
  show AW _ _ _ _ ⟨sl [(0, .pv (.str name1)), (3, .pv (.int .i64 i3))], 42, []⟩
  refine AW.seq ?_
  refine AW.seq ?_
  refine AW.reg hS [(0, .pv (.str name1)), (3, .pv (.int .i64 i3)), (7, .pv (.bool (decide (i3 < (name1.length : Int)))))] [] ?_ ?_
  · simp -implicitDefEqProofs only [RUNS, qindex, Nat.reduceAdd, Nat.reduceLeDiff, Nat.reduceSub, reduceIte, Nat.reduceEqDiff, Nat.reduceLT, reduceCtorEq, Nat.reduceMul, Nat.reduceBEq, Int.reduceEq, if_true, if_false, eq_self, ne_eq, env_bT, T_3, T_9, P29_eq, Var.pv_eq, P32_eq, GEnv.pv_eq, P41_eq, Redir.pv_eq, P152_eq, Cmd.pv_eq, P42_eq, Word.pv_eq, GValue.pv_eq, eqT_3]
  refine AW.cond (b := decide (i3 < (name1.length : Int))) rfl (fun hb7 => ?_) (fun hb7 => ?_)
  · replace h := bif_t hb7 h
    refine AW.skip ?_
    refine AW.seq ?_
    refine AW.block ?_
    refine AW.seq ?_
    replace h := Option.bind_eq_some_iff.1 h; obtain ⟨c8, q9, h⟩ := h
    have f10 := sidx_f q9
    refine AW.reg hS [(0, .pv (.str name1)), (3, .pv (.int .i64 i3)), (25, .pv (.bool ((decide (c8 < 33) || decide (126 < c8)) || decide (c8 = 47))))] [] ?_ ?_
    · clear h
      (simp -implicitDefEqProofs only [RUNS, qindex, Nat.reduceAdd, Nat.reduceLeDiff, Nat.reduceSub, reduceIte, Nat.reduceEqDiff, Nat.reduceLT, reduceCtorEq, Nat.reduceMul, Nat.reduceBEq, Int.reduceEq, if_true, if_false, eq_self, ne_eq, env_bT, T_5, T_9, P29_eq, Var.pv_eq, P32_eq, GEnv.pv_eq, P41_eq, Redir.pv_eq, P152_eq, Cmd.pv_eq, P42_eq, Word.pv_eq, GValue.pv_eq, f10.1, f10.2.1, f10.2.2, eqT_5]); repeat' (split <;> rename_i hb <;> (try simp only [HBS, ge_iff_le, gt_iff_lt] at hb) <;> simp -implicitDefEqProofs only [RUNS, qindex, Nat.reduceAdd, Nat.reduceLeDiff, Nat.reduceSub, reduceIte, Nat.reduceEqDiff, Nat.reduceLT, reduceCtorEq, Nat.reduceMul, Nat.reduceBEq, Int.reduceEq, if_true, if_false, eq_self, ne_eq, env_bT, T_5, T_9, P29_eq, Var.pv_eq, P32_eq, GEnv.pv_eq, P41_eq, Redir.pv_eq, P152_eq, Cmd.pv_eq, P42_eq, Word.pv_eq, GValue.pv_eq, f10.1, f10.2.1, f10.2.2, eqT_5, *, decide_true, decide_false, Decidable.not_not, not_false_eq_true, not_true_eq_false])
      all_goals (first | (simp only [BOOLS]; done) | (simp [*]; done) | ((try simp only [CLOS, beq_iff_eq, bne_iff_ne, ne_eq] at *) <;> omega) | (simp_all; done) | (simp_all <;> omega))
    refine AW.cond (b := ((decide (c8 < 33) || decide (126 < c8)) || decide (c8 = 47))) rfl (fun hb11 => ?_) (fun hb11 => ?_)
    · replace h := bif_t hb11 h
      refine AW.seq ?_
      refine AW.reg hS [(2, .pv (.bool false))] [] ?_ ?_
      · simp -implicitDefEqProofs only [RUNS, qindex, Nat.reduceAdd, Nat.reduceLeDiff, Nat.reduceSub, reduceIte, Nat.reduceEqDiff, Nat.reduceLT, reduceCtorEq, Nat.reduceMul, Nat.reduceBEq, Int.reduceEq, if_true, if_false, eq_self, ne_eq, env_bT, P29_eq, Var.pv_eq, P32_eq, GEnv.pv_eq, P41_eq, Redir.pv_eq, P152_eq, Cmd.pv_eq, P42_eq, Word.pv_eq, GValue.pv_eq]
      refine AW.ret ?_
      cases h
      show finish _ _ _ _ _ = _
      first | rfl | (simp [finish, resOf, renArgs, toPV, selObjs, sl])
    · replace h := bif_f hb11 h
      refine AW.skip ?_
      refine AW.reg hS [(0, .pv (.str name1)), (3, .pv (.int .i64 (IntKind.wrap .i64 (i3 + 1))))] [] ?_ ?_
      · simp -implicitDefEqProofs only [RUNS, qindex, Nat.reduceAdd, Nat.reduceLeDiff, Nat.reduceSub, reduceIte, Nat.reduceEqDiff, Nat.reduceLT, reduceCtorEq, Nat.reduceMul, Nat.reduceBEq, Int.reduceEq, if_true, if_false, eq_self, ne_eq, env_bT, T_3, P29_eq, Var.pv_eq, P32_eq, GEnv.pv_eq, P41_eq, Redir.pv_eq, P152_eq, Cmd.pv_eq, P42_eq, Word.pv_eq, GValue.pv_eq, eqT_3]
      exact ⟨(m6, IntKind.wrap .i64 (i3 + 1)), h, (Weak.norm (m := 0) (Nat.le_of_ble_eq_true rfl) ⟨rfl, rfl, trivial⟩ rfl rfl rfl), Nat.lt_succ_self _⟩
  · replace h := bif_f hb7 h
    refine AW.exit ?_
    refine AW.seq ?_
    refine AW.reg hS [(2, .pv (.bool (((decide (1 ≤ (name1.length : Int)) && decide ((name1.length : Int) ≤ 64)) && !decide (name1 = [46])) && !decide (name1 = [46, 46]))))] [] ?_ ?_
    · clear h
      (simp -implicitDefEqProofs only [RUNS, qindex, Nat.reduceAdd, Nat.reduceLeDiff, Nat.reduceSub, reduceIte, Nat.reduceEqDiff, Nat.reduceLT, reduceCtorEq, Nat.reduceMul, Nat.reduceBEq, Int.reduceEq, if_true, if_false, eq_self, ne_eq, env_bT, T_3, T_9, P29_eq, Var.pv_eq, P32_eq, GEnv.pv_eq, P41_eq, Redir.pv_eq, P152_eq, Cmd.pv_eq, P42_eq, Word.pv_eq, GValue.pv_eq, eqT_3, eqT_9]); repeat' (split <;> rename_i hb <;> (try simp only [HBS, ge_iff_le, gt_iff_lt] at hb) <;> simp -implicitDefEqProofs only [RUNS, qindex, Nat.reduceAdd, Nat.reduceLeDiff, Nat.reduceSub, reduceIte, Nat.reduceEqDiff, Nat.reduceLT, reduceCtorEq, Nat.reduceMul, Nat.reduceBEq, Int.reduceEq, if_true, if_false, eq_self, ne_eq, env_bT, T_3, T_9, P29_eq, Var.pv_eq, P32_eq, GEnv.pv_eq, P41_eq, Redir.pv_eq, P152_eq, Cmd.pv_eq, P42_eq, Word.pv_eq, GValue.pv_eq, eqT_3, eqT_9, *, decide_true, decide_false, Decidable.not_not, not_false_eq_true, not_true_eq_false])
      all_goals (first | (simp only [BOOLS]; done) | (simp [*]; done) | ((try simp only [CLOS, beq_iff_eq, bne_iff_ne, ne_eq] at *) <;> omega) | (simp_all; done) | (simp_all <;> omega))
    refine AW.ret ?_
    cases h
    show finish _ _ _ _ _ = _
    first | rfl | (simp [finish, resOf, renArgs, toPV, selObjs, sl])

set_option maxHeartbeats 4000000 in
theorem g_F15 {O : Orc} (hS : Sound env O) (hpf : O.pf = pfn) (g1 : GEnv) (name2 : Str) (r3 : Int) (h : F15 g1 name2 = some r3) : Good env 15 [.pv (.agg [.int .i64 g1.id_, .int .i64 g1.next_, .slice (List.map Var.pv g1.vars_)]), .pv (.str name2)] [] [.pv (.int .i64 r3)] [] := by
  refine Good.start (fn := Tryz.f15) (N := 22) fn_15 rfl rfl (by simp) [] _ rfl rfl ?_
  rw [F15] at h
  refine AW.seq ?_
  refine AW.reg hS [(1, .pv (.str name2)), (2, .ref 0 0)] [.var [.pv (.int .i64 g1.id_), .pv (.int .i64 g1.next_), .pv (.slice (List.map Var.pv g1.vars_))]] ?_ ?_
  · simp -implicitDefEqProofs only [RUNS, qindex, Nat.reduceAdd, Nat.reduceLeDiff, Nat.reduceSub, reduceIte, Nat.reduceEqDiff, Nat.reduceLT, reduceCtorEq, Nat.reduceMul, Nat.reduceBEq, Int.reduceEq, if_true, if_false, eq_self, ne_eq, env_bT, T_34, P29_eq, Var.pv_eq, P32_eq, GEnv.pv_eq, P41_eq, Redir.pv_eq, P152_eq, Cmd.pv_eq, P42_eq, Word.pv_eq, GValue.pv_eq]
  refine AW.seq ?_
  refine AW.seq ?_
  refine AW.reg hS [(1, .pv (.str name2)), (2, .ref 0 0), (5, .pv (.int .i64 0))] [.var [.pv (.int .i64 g1.id_), .pv (.int .i64 g1.next_), .pv (.slice (List.map Var.pv g1.vars_))]] ?_ ?_
  · simp -implicitDefEqProofs only [RUNS, qindex, Nat.reduceAdd, Nat.reduceLeDiff, Nat.reduceSub, reduceIte, Nat.reduceEqDiff, Nat.reduceLT, reduceCtorEq, Nat.reduceMul, Nat.reduceBEq, Int.reduceEq, if_true, if_false, eq_self, ne_eq, env_bT, P29_eq, Var.pv_eq, P32_eq, GEnv.pv_eq, P41_eq, Redir.pv_eq, P152_eq, Cmd.pv_eq, P42_eq, Word.pv_eq, GValue.pv_eq]
  refine AW.block ?_
  refine AW.weak (Weak.slots (L := [(1, .pv (.str name2)), (2, .ref 0 0), (5, .pv (.int .i64 0))]) ⟨rfl, rfl, rfl, trivial⟩) ?_
  refine AW.loopI (α := Nat × Int) (fun (_, i4) => ⟨sl [(1, .pv (.str name2)), (2, .ref 0 0), (5, .pv (.int .i64 i4))], 22, [.var [.pv (.int .i64 g1.id_), .pv (.int .i64 g1.next_), .pv (.slice (List.map Var.pv g1.vars_))]]⟩) (fun x => iter (F15_b1 g1 name2) x.1 x.2 = some r3) (fun x => x.1) (BIG, 0) h ?_
  clear h
  intro ⟨n13, i4⟩ h
  replace h := iter_some h; obtain ⟨m7, rfl, h⟩ := h
  rw [F15_b1] at h
  try dsimp only at h
  show AW _ _ _ _ ⟨sl [(1, .pv (.str name2)), (2, .ref 0 0), (5, .pv (.int .i64 i4))], 22, [.var [.pv (.int .i64 g1.id_), .pv (.int .i64 g1.next_), .pv (.slice (List.map Var.pv g1.vars_))]]⟩
  refine AW.seq ?_
  refine AW.seq ?_
  refine AW.reg hS [(1, .pv (.str name2)), (2, .ref 0 0), (5, .pv (.int .i64 i4)), (10, .pv (.bool (decide (i4 < (g1.vars_.length : Int)))))] [.var [.pv (.int .i64 g1.id_), .pv (.int .i64 g1.next_), .pv (.slice (List.map Var.pv g1.vars_))]] ?_ ?_
  · simp -implicitDefEqProofs only [RUNS, qindex, Nat.reduceAdd, Nat.reduceLeDiff, Nat.reduceSub, reduceIte, Nat.reduceEqDiff, Nat.reduceLT, reduceCtorEq, Nat.reduceMul, Nat.reduceBEq, Int.reduceEq, if_true, if_false, eq_self, ne_eq, env_bT, T_3, T_32, T_34, T_37, P29_eq, Var.pv_eq, P32_eq, GEnv.pv_eq, P41_eq, Redir.pv_eq, P152_eq, Cmd.pv_eq, P42_eq, Word.pv_eq, GValue.pv_eq, eqT_3]
  refine AW.cond (b := decide (i4 < (g1.vars_.length : Int))) rfl (fun hb8 => ?_) (fun hb8 => ?_)
  · replace h := bif_t hb8 h
    refine AW.skip ?_
    refine AW.seq ?_
    refine AW.block ?_
    refine AW.seq ?_
    replace h := Option.bind_eq_some_iff.1 h; obtain ⟨u9, q10, h⟩ := h
    have f11 := lidx_f q10
    refine AW.reg hS [(1, .pv (.str name2)), (2, .ref 0 0), (5, .pv (.int .i64 i4)), (20, .pv (.bool (decide (u9.name_ = name2))))] [.var [.pv (.int .i64 g1.id_), .pv (.int .i64 g1.next_), .pv (.slice (List.map Var.pv g1.vars_))]] ?_ ?_
    · simp -implicitDefEqProofs only [RUNS, qindex, Nat.reduceAdd, Nat.reduceLeDiff, Nat.reduceSub, reduceIte, Nat.reduceEqDiff, Nat.reduceLT, reduceCtorEq, Nat.reduceMul, Nat.reduceBEq, Int.reduceEq, if_true, if_false, eq_self, ne_eq, env_bT, T_9, T_32, T_34, T_37, P29_eq, Var.pv_eq, P32_eq, GEnv.pv_eq, P41_eq, Redir.pv_eq, P152_eq, Cmd.pv_eq, P42_eq, Word.pv_eq, GValue.pv_eq, f11.1, f11.2.1, eqT_9]
    refine AW.cond (b := decide (u9.name_ = name2)) rfl (fun hb12 => ?_) (fun hb12 => ?_)
    · replace h := bif_t hb12 h
      refine AW.seq ?_
      refine AW.reg hS [(4, .pv (.int .i64 i4))] [.var [.pv (.int .i64 g1.id_), .pv (.int .i64 g1.next_), .pv (.slice (List.map Var.pv g1.vars_))]] ?_ ?_
      · simp -implicitDefEqProofs only [RUNS, qindex, Nat.reduceAdd, Nat.reduceLeDiff, Nat.reduceSub, reduceIte, Nat.reduceEqDiff, Nat.reduceLT, reduceCtorEq, Nat.reduceMul, Nat.reduceBEq, Int.reduceEq, if_true, if_false, eq_self, ne_eq, env_bT, P29_eq, Var.pv_eq, P32_eq, GEnv.pv_eq, P41_eq, Redir.pv_eq, P152_eq, Cmd.pv_eq, P42_eq, Word.pv_eq, GValue.pv_eq]
      refine AW.ret ?_
      cases h
      show finish _ _ _ _ _ = _
      first | rfl | (simp [finish, resOf, renArgs, toPV, selObjs, sl])
    · replace h := bif_f hb12 h
      refine AW.skip ?_
      refine AW.reg hS [(1, .pv (.str name2)), (2, .ref 0 0), (5, .pv (.int .i64 (IntKind.wrap .i64 (i4 + 1))))] [.var [.pv (.int .i64 g1.id_), .pv (.int .i64 g1.next_), .pv (.slice (List.map Var.pv g1.vars_))]] ?_ ?_
      · simp -implicitDefEqProofs only [RUNS, qindex, Nat.reduceAdd, Nat.reduceLeDiff, Nat.reduceSub, reduceIte, Nat.reduceEqDiff, Nat.reduceLT, reduceCtorEq, Nat.reduceMul, Nat.reduceBEq, Int.reduceEq, if_true, if_false, eq_self, ne_eq, env_bT, T_3, P29_eq, Var.pv_eq, P32_eq, GEnv.pv_eq, P41_eq, Redir.pv_eq, P152_eq, Cmd.pv_eq, P42_eq, Word.pv_eq, GValue.pv_eq, eqT_3]
      exact ⟨(m7, IntKind.wrap .i64 (i4 + 1)), h, (Weak.norm (m := 1) (Nat.le_of_ble_eq_true rfl) ⟨rfl, rfl, rfl, trivial⟩ rfl rfl rfl), Nat.lt_succ_self _⟩
  · replace h := bif_f hb8 h
    refine AW.exit ?_
    refine AW.seq ?_
    refine AW.reg hS [(4, .pv (.int .i64 (-1)))] [.var [.pv (.int .i64 g1.id_), .pv (.int .i64 g1.next_), .pv (.slice (List.map Var.pv g1.vars_))]] ?_ ?_
    · simp -implicitDefEqProofs only [RUNS, qindex, Nat.reduceAdd, Nat.reduceLeDiff, Nat.reduceSub, reduceIte, Nat.reduceEqDiff, Nat.reduceLT, reduceCtorEq, Nat.reduceMul, Nat.reduceBEq, Int.reduceEq, if_true, if_false, eq_self, ne_eq, env_bT, P29_eq, Var.pv_eq, P32_eq, GEnv.pv_eq, P41_eq, Redir.pv_eq, P152_eq, Cmd.pv_eq, P42_eq, Word.pv_eq, GValue.pv_eq]
    refine AW.ret ?_
    cases h
    show finish _ _ _ _ _ = _
    first | rfl | (simp [finish, resOf, renArgs, toPV, selObjs, sl])

set_option maxHeartbeats 4000000 in
theorem g_F5 {O : Orc} (hS : Sound env O) (hpf : O.pf = pfn) (c_F13 : C_F13 O) (c_F14 : C_F14 O) (c_F15 : C_F15 O) (l1 : List GEnv) (r2 : Bool) (h : F5 l1 = some r2) : Good env 5 [.pv (.slice (List.map GEnv.pv l1))] [] [.pv (.bool r2)] [] := by
  have pf_13 : O.pf 13 = true := by rw [hpf]; rfl
  have pf_14 : O.pf 14 = true := by rw [hpf]; rfl
  have pf_15 : O.pf 15 = true := by rw [hpf]; rfl
  refine Good.start (fn := Tryz.f5) (N := 123) fn_5 rfl rfl (by simp) [] _ rfl rfl ?_
  rw [F5] at h
  refine AW.seq ?_
  refine AW.reg hS [(0, .pv (.slice (List.map GEnv.pv l1)))] [] ?_ ?_
  · simp -implicitDefEqProofs only [RUNS, qindex, Nat.reduceAdd, Nat.reduceLeDiff, Nat.reduceSub, reduceIte, Nat.reduceEqDiff, Nat.reduceLT, reduceCtorEq, Nat.reduceMul, Nat.reduceBEq, Int.reduceEq, if_true, if_false, eq_self, ne_eq, env_bT, P29_eq, Var.pv_eq, P32_eq, GEnv.pv_eq, P41_eq, Redir.pv_eq, P152_eq, Cmd.pv_eq, P42_eq, Word.pv_eq, GValue.pv_eq]
  refine AW.seq ?_
  refine AW.seq ?_
  refine AW.reg hS [(0, .pv (.slice (List.map GEnv.pv l1))), (11, .pv (.bool (decide (64 < (l1.length : Int)))))] [] ?_ ?_
  · simp -implicitDefEqProofs only [RUNS, qindex, Nat.reduceAdd, Nat.reduceLeDiff, Nat.reduceSub, reduceIte, Nat.reduceEqDiff, Nat.reduceLT, reduceCtorEq, Nat.reduceMul, Nat.reduceBEq, Int.reduceEq, if_true, if_false, eq_self, ne_eq, env_bT, T_3, T_22, T_34, P29_eq, Var.pv_eq, P32_eq, GEnv.pv_eq, P41_eq, Redir.pv_eq, P152_eq, Cmd.pv_eq, P42_eq, Word.pv_eq, GValue.pv_eq, eqT_3]
  refine AW.cond (b := decide (64 < (l1.length : Int))) rfl (fun hb3 => ?_) (fun hb3 => ?_)
  · replace h := bif_t hb3 h
    refine AW.seq ?_
    refine AW.reg hS [(2, .pv (.bool false))] [] ?_ ?_
    · simp -implicitDefEqProofs only [RUNS, qindex, Nat.reduceAdd, Nat.reduceLeDiff, Nat.reduceSub, reduceIte, Nat.reduceEqDiff, Nat.reduceLT, reduceCtorEq, Nat.reduceMul, Nat.reduceBEq, Int.reduceEq, if_true, if_false, eq_self, ne_eq, env_bT, P29_eq, Var.pv_eq, P32_eq, GEnv.pv_eq, P41_eq, Redir.pv_eq, P152_eq, Cmd.pv_eq, P42_eq, Word.pv_eq, GValue.pv_eq]
    refine AW.ret ?_
    cases h
    show finish _ _ _ _ _ = _
    first | rfl | (simp [finish, resOf, renArgs, toPV, selObjs, sl])
  · replace h := bif_f hb3 h
    refine AW.skip ?_
    refine AW.seq ?_
    refine AW.seq ?_
    refine AW.reg hS [(0, .pv (.slice (List.map GEnv.pv l1))), (3, .pv (.int .i64 0))] [] ?_ ?_
    · simp -implicitDefEqProofs only [RUNS, qindex, Nat.reduceAdd, Nat.reduceLeDiff, Nat.reduceSub, reduceIte, Nat.reduceEqDiff, Nat.reduceLT, reduceCtorEq, Nat.reduceMul, Nat.reduceBEq, Int.reduceEq, if_true, if_false, eq_self, ne_eq, env_bT, P29_eq, Var.pv_eq, P32_eq, GEnv.pv_eq, P41_eq, Redir.pv_eq, P152_eq, Cmd.pv_eq, P42_eq, Word.pv_eq, GValue.pv_eq]
    refine AW.block ?_
    refine AW.weak (Weak.slots (L := [(0, .pv (.slice (List.map GEnv.pv l1))), (3, .pv (.int .i64 0))]) ⟨rfl, rfl, trivial⟩) ?_
    refine AW.loopI (α := Nat × Int) (fun (_, i4) => ⟨sl [(0, .pv (.slice (List.map GEnv.pv l1))), (3, .pv (.int .i64 i4))], 123, []⟩) (fun x => iter (F5_b2 l1) x.1 x.2 = some r2) (fun x => x.1) (BIG, 0) h ?_
    clear h
    intro ⟨n39, i4⟩ h
    replace h := iter_some h; obtain ⟨m7, rfl, h⟩ := h
    rw [F5_b2] at h
    try dsimp only at h
    show AW _ _ _ _ ⟨sl [(0, .pv (.slice (List.map GEnv.pv l1))), (3, .pv (.int .i64 i4))], 123, []⟩
    refine AW.seq ?_
    refine AW.seq ?_
    refine AW.reg hS [(0, .pv (.slice (List.map GEnv.pv l1))), (3, .pv (.int .i64 i4)), (15, .pv (.bool (decide (i4 < (l1.length : Int)))))] [] ?_ ?_
    · simp -implicitDefEqProofs only [RUNS, qindex, Nat.reduceAdd, Nat.reduceLeDiff, Nat.reduceSub, reduceIte, Nat.reduceEqDiff, Nat.reduceLT, reduceCtorEq, Nat.reduceMul, Nat.reduceBEq, Int.reduceEq, if_true, if_false, eq_self, ne_eq, env_bT, T_3, T_22, T_34, P29_eq, Var.pv_eq, P32_eq, GEnv.pv_eq, P41_eq, Redir.pv_eq, P152_eq, Cmd.pv_eq, P42_eq, Word.pv_eq, GValue.pv_eq, eqT_3]
    refine AW.cond (b := decide (i4 < (l1.length : Int))) rfl (fun hb8 => ?_) (fun hb8 => ?_)
    · replace h := bif_t hb8 h
      refine AW.skip ?_
      refine AW.seq ?_
      refine AW.block ?_
      refine AW.seq ?_
      replace h := Option.bind_eq_some_iff.1 h; obtain ⟨u9, q10, h⟩ := h
      have f11 := lidx_f q10
      refine AW.reg hS [(0, .pv (.slice (List.map GEnv.pv l1))), (3, .pv (.int .i64 i4)), (4, .ref 0 0)] [.var [.pv (.int .i64 u9.id_), .pv (.int .i64 u9.next_), .pv (.slice (List.map Var.pv u9.vars_))]] ?_ ?_
      · simp -implicitDefEqProofs only [RUNS, qindex, Nat.reduceAdd, Nat.reduceLeDiff, Nat.reduceSub, reduceIte, Nat.reduceEqDiff, Nat.reduceLT, reduceCtorEq, Nat.reduceMul, Nat.reduceBEq, Int.reduceEq, if_true, if_false, eq_self, ne_eq, env_bT, T_22, T_34, P29_eq, Var.pv_eq, P32_eq, GEnv.pv_eq, P41_eq, Redir.pv_eq, P152_eq, Cmd.pv_eq, P42_eq, Word.pv_eq, GValue.pv_eq, f11.1, f11.2.1]
      refine AW.seq ?_
      refine AW.seq ?_
      replace h := Option.bind_eq_some_iff.1 h; obtain ⟨u12, q13, h⟩ := h
      have f14 := lidx_g (guardO_t q13)
      refine AW.dreg mixed hS (hpf ▸ (by kernel_rfl : orderOK pfn _ = true)) [(0, .pv (.slice (List.map GEnv.pv l1))), (3, .pv (.int .i64 i4)), (4, .ref 0 0), (60, .pv (.bool (((((decide (u9.id_ < 1) || decide (1099511627776 < u9.id_)) || (decide (0 < i4) && decide (u9.id_ ≤ u12.id_))) || decide (u9.next_ < 2)) || decide (1048576 < u9.next_)) || decide (64 < (u9.vars_.length : Int)))))] [.var [.pv (.int .i64 u9.id_), .pv (.int .i64 u9.next_), .pv (.slice (List.map Var.pv u9.vars_))]] ?_ ?_
      · clear h
        (simp -implicitDefEqProofs only [RUNS, qindex, Nat.reduceAdd, Nat.reduceLeDiff, Nat.reduceSub, reduceIte, Nat.reduceEqDiff, Nat.reduceLT, reduceCtorEq, Nat.reduceMul, Nat.reduceBEq, Int.reduceEq, if_true, if_false, eq_self, ne_eq, env_bT, T_3, T_22, T_32, T_34, T_37, P29_eq, Var.pv_eq, P32_eq, GEnv.pv_eq, P41_eq, Redir.pv_eq, P152_eq, Cmd.pv_eq, P42_eq, Word.pv_eq, GValue.pv_eq, eqT_3, f14.1, f14.2.1]); repeat' (split <;> rename_i hb <;> (try simp only [HBS, ge_iff_le, gt_iff_lt] at hb) <;> simp -implicitDefEqProofs only [RUNS, qindex, Nat.reduceAdd, Nat.reduceLeDiff, Nat.reduceSub, reduceIte, Nat.reduceEqDiff, Nat.reduceLT, reduceCtorEq, Nat.reduceMul, Nat.reduceBEq, Int.reduceEq, if_true, if_false, eq_self, ne_eq, env_bT, T_3, T_22, T_32, T_34, T_37, P29_eq, Var.pv_eq, P32_eq, GEnv.pv_eq, P41_eq, Redir.pv_eq, P152_eq, Cmd.pv_eq, P42_eq, Word.pv_eq, GValue.pv_eq, eqT_3, f14.1, f14.2.1, *, decide_true, decide_false, Decidable.not_not, not_false_eq_true, not_true_eq_false])
        all_goals (first | (simp only [BOOLS]; done) | (simp [*]; done) | ((try simp only [CLOS, beq_iff_eq, bne_iff_ne, ne_eq] at *) <;> omega) | (simp_all; done) | (simp_all <;> omega))
      refine AW.cond (b := (((((decide (u9.id_ < 1) || decide (1099511627776 < u9.id_)) || (decide (0 < i4) && decide (u9.id_ ≤ u12.id_))) || decide (u9.next_ < 2)) || decide (1048576 < u9.next_)) || decide (64 < (u9.vars_.length : Int)))) rfl (fun hb15 => ?_) (fun hb15 => ?_)
      · replace h := bif_t hb15 h
        refine AW.seq ?_
        refine AW.reg hS [(2, .pv (.bool false))] [.var [.pv (.int .i64 u9.id_), .pv (.int .i64 u9.next_), .pv (.slice (List.map Var.pv u9.vars_))]] ?_ ?_
        · simp -implicitDefEqProofs only [RUNS, qindex, Nat.reduceAdd, Nat.reduceLeDiff, Nat.reduceSub, reduceIte, Nat.reduceEqDiff, Nat.reduceLT, reduceCtorEq, Nat.reduceMul, Nat.reduceBEq, Int.reduceEq, if_true, if_false, eq_self, ne_eq, env_bT, P29_eq, Var.pv_eq, P32_eq, GEnv.pv_eq, P41_eq, Redir.pv_eq, P152_eq, Cmd.pv_eq, P42_eq, Word.pv_eq, GValue.pv_eq]
        refine AW.ret ?_
        cases h
        show finish _ _ _ _ _ = _
        first | rfl | (simp [finish, resOf, renArgs, toPV, selObjs, sl])
      · replace h := bif_f hb15 h
        refine AW.skip ?_
        refine AW.seq ?_
        refine AW.reg hS [(0, .pv (.slice (List.map GEnv.pv l1))), (3, .pv (.int .i64 i4)), (4, .ref 0 0), (5, .pv (.int .i64 0))] [.var [.pv (.int .i64 u9.id_), .pv (.int .i64 u9.next_), .pv (.slice (List.map Var.pv u9.vars_))]] ?_ ?_
        · simp -implicitDefEqProofs only [RUNS, qindex, Nat.reduceAdd, Nat.reduceLeDiff, Nat.reduceSub, reduceIte, Nat.reduceEqDiff, Nat.reduceLT, reduceCtorEq, Nat.reduceMul, Nat.reduceBEq, Int.reduceEq, if_true, if_false, eq_self, ne_eq, env_bT, P29_eq, Var.pv_eq, P32_eq, GEnv.pv_eq, P41_eq, Redir.pv_eq, P152_eq, Cmd.pv_eq, P42_eq, Word.pv_eq, GValue.pv_eq]
        refine AW.block ?_
        refine AW.weak (Weak.slots (L := [(0, .pv (.slice (List.map GEnv.pv l1))), (3, .pv (.int .i64 i4)), (4, .ref 0 0), (5, .pv (.int .i64 0))]) ⟨rfl, rfl, rfl, rfl, trivial⟩) ?_
        refine AW.loopI (α := Nat × Int) (fun (_, k16) => ⟨sl [(0, .pv (.slice (List.map GEnv.pv l1))), (3, .pv (.int .i64 i4)), (4, .ref 0 0), (5, .pv (.int .i64 k16))], 123, [.var [.pv (.int .i64 u9.id_), .pv (.int .i64 u9.next_), .pv (.slice (List.map Var.pv u9.vars_))]]⟩) (fun x => iter (F5_b3 u9 (iter (F5_b2 l1) m7) i4) x.1 x.2 = some r2) (fun x => x.1) (BIG, 0) h ?_
        clear h
        intro ⟨n38, k16⟩ h
        replace h := iter_some h; obtain ⟨m19, rfl, h⟩ := h
        rw [F5_b3] at h
        try dsimp only at h
        show AW _ _ _ _ ⟨sl [(0, .pv (.slice (List.map GEnv.pv l1))), (3, .pv (.int .i64 i4)), (4, .ref 0 0), (5, .pv (.int .i64 k16))], 123, [.var [.pv (.int .i64 u9.id_), .pv (.int .i64 u9.next_), .pv (.slice (List.map Var.pv u9.vars_))]]⟩
        refine AW.seq ?_
        refine AW.seq ?_
        refine AW.reg hS [(0, .pv (.slice (List.map GEnv.pv l1))), (3, .pv (.int .i64 i4)), (4, .ref 0 0), (5, .pv (.int .i64 k16)), (65, .pv (.bool (decide (k16 < (u9.vars_.length : Int)))))] [.var [.pv (.int .i64 u9.id_), .pv (.int .i64 u9.next_), .pv (.slice (List.map Var.pv u9.vars_))]] ?_ ?_
        · simp -implicitDefEqProofs only [RUNS, qindex, Nat.reduceAdd, Nat.reduceLeDiff, Nat.reduceSub, reduceIte, Nat.reduceEqDiff, Nat.reduceLT, reduceCtorEq, Nat.reduceMul, Nat.reduceBEq, Int.reduceEq, if_true, if_false, eq_self, ne_eq, env_bT, T_3, T_32, T_34, T_37, P29_eq, Var.pv_eq, P32_eq, GEnv.pv_eq, P41_eq, Redir.pv_eq, P152_eq, Cmd.pv_eq, P42_eq, Word.pv_eq, GValue.pv_eq, eqT_3]
        refine AW.cond (b := decide (k16 < (u9.vars_.length : Int))) rfl (fun hb20 => ?_) (fun hb20 => ?_)
        · replace h := bif_t hb20 h
          refine AW.skip ?_
          refine AW.seq ?_
          refine AW.block ?_
          refine AW.seq ?_
          replace h := Option.bind_eq_some_iff.1 h; obtain ⟨u21, q22, h⟩ := h
          have f23 := lidx_f q22
          refine AW.reg hS [(0, .pv (.slice (List.map GEnv.pv l1))), (3, .pv (.int .i64 i4)), (4, .ref 0 0), (5, .pv (.int .i64 k16)), (6, .ref 1 0)] [.var [.pv (.int .i64 u9.id_), .pv (.int .i64 u9.next_), .pv (.slice (List.map Var.pv u9.vars_))], .var [.pv (.int .i64 u21.id_), .pv (.str u21.name_), .pv (.slice (List.map PV.str u21.values_))]] ?_ ?_
          · simp -implicitDefEqProofs only [RUNS, qindex, Nat.reduceAdd, Nat.reduceLeDiff, Nat.reduceSub, reduceIte, Nat.reduceEqDiff, Nat.reduceLT, reduceCtorEq, Nat.reduceMul, Nat.reduceBEq, Int.reduceEq, if_true, if_false, eq_self, ne_eq, env_bT, T_32, T_34, T_37, P29_eq, Var.pv_eq, P32_eq, GEnv.pv_eq, P41_eq, Redir.pv_eq, P152_eq, Cmd.pv_eq, P42_eq, Word.pv_eq, GValue.pv_eq, f23.1, f23.2.1]
          refine AW.seq ?_
          replace h := Option.bind_eq_some_iff.1 h; obtain ⟨⟨r24, r25⟩, q26, h⟩ := h
          dsimp only at h
          have f27 := c_F13 u21.values_ r24 r25 q26
          try dsimp only at f27
          refine AW.reg hS [(0, .pv (.slice (List.map GEnv.pv l1))), (3, .pv (.int .i64 i4)), (4, .ref 0 0), (5, .pv (.int .i64 k16)), (6, .ref 1 0), (8, .pv (.int .i64 r25))] [.var [.pv (.int .i64 u9.id_), .pv (.int .i64 u9.next_), .pv (.slice (List.map Var.pv u9.vars_))], .var [.pv (.int .i64 u21.id_), .pv (.str u21.name_), .pv (.slice (List.map PV.str u21.values_))]] ?_ ?_
          · simp -implicitDefEqProofs only [RUNS, qindex, Nat.reduceAdd, Nat.reduceLeDiff, Nat.reduceSub, reduceIte, Nat.reduceEqDiff, Nat.reduceLT, reduceCtorEq, Nat.reduceMul, Nat.reduceBEq, Int.reduceEq, if_true, if_false, eq_self, ne_eq, env_bT, T_9, T_29, T_37, P29_eq, Var.pv_eq, P32_eq, GEnv.pv_eq, P41_eq, Redir.pv_eq, P152_eq, Cmd.pv_eq, P42_eq, Word.pv_eq, GValue.pv_eq, pf_13, f27]
          refine AW.seq ?_
          replace h := Option.bind_eq_some_iff.1 h; obtain ⟨r28, q29, h⟩ := h
          have f30 := fun hg => c_F14 u21.name_ r28 (guardO_t q29 hg)
          try dsimp only at f30
          replace h := Option.bind_eq_some_iff.1 h; obtain ⟨r31, q32, h⟩ := h
          have f33 := fun hg => c_F15 u9 u21.name_ r31 (guardO_t q32 hg)
          try dsimp only at f33
          replace h := Option.bind_eq_some_iff.1 h; obtain ⟨u34, q35, h⟩ := h
          have f36 := lidx_g (guardO_t q35)
          refine AW.dreg mixed hS (hpf ▸ (by kernel_rfl : orderOK pfn _ = true)) [(0, .pv (.slice (List.map GEnv.pv l1))), (3, .pv (.int .i64 i4)), (4, .ref 0 0), (5, .pv (.int .i64 k16)), (122, .pv (.bool (((((!decide (r25 = 0) || !r28) || !decide (r31 = k16)) || decide (u21.id_ < 2)) || decide (u9.next_ ≤ u21.id_)) || (decide (0 < k16) && decide (u21.id_ ≤ u34.id_)))))] [.var [.pv (.int .i64 u9.id_), .pv (.int .i64 u9.next_), .pv (.slice (List.map Var.pv u9.vars_))], .var [.pv (.int .i64 u21.id_), .pv (.str u21.name_), .pv (.slice (List.map PV.str u21.values_))]] ?_ ?_
          · clear h
            (simp -implicitDefEqProofs only [RUNS, qindex, Nat.reduceAdd, Nat.reduceLeDiff, Nat.reduceSub, reduceIte, Nat.reduceEqDiff, Nat.reduceLT, reduceCtorEq, Nat.reduceMul, Nat.reduceBEq, Int.reduceEq, if_true, if_false, eq_self, ne_eq, env_bT, T_3, T_9, T_25, T_32, T_34, T_37, P29_eq, Var.pv_eq, P32_eq, GEnv.pv_eq, P41_eq, Redir.pv_eq, P152_eq, Cmd.pv_eq, P42_eq, Word.pv_eq, GValue.pv_eq, eqT_25, pf_14, f30, pf_15, f33, eqT_3, f36.1, f36.2.1]); repeat' (split <;> rename_i hb <;> (try simp only [HBS, ge_iff_le, gt_iff_lt] at hb) <;> simp -implicitDefEqProofs only [RUNS, qindex, Nat.reduceAdd, Nat.reduceLeDiff, Nat.reduceSub, reduceIte, Nat.reduceEqDiff, Nat.reduceLT, reduceCtorEq, Nat.reduceMul, Nat.reduceBEq, Int.reduceEq, if_true, if_false, eq_self, ne_eq, env_bT, T_3, T_9, T_25, T_32, T_34, T_37, P29_eq, Var.pv_eq, P32_eq, GEnv.pv_eq, P41_eq, Redir.pv_eq, P152_eq, Cmd.pv_eq, P42_eq, Word.pv_eq, GValue.pv_eq, eqT_25, pf_14, f30, pf_15, f33, eqT_3, f36.1, f36.2.1, *, decide_true, decide_false, Decidable.not_not, not_false_eq_true, not_true_eq_false])
            all_goals (first | (simp only [BOOLS]; done) | (simp [*]; done) | ((try simp only [CLOS, beq_iff_eq, bne_iff_ne, ne_eq] at *) <;> omega) | (simp_all; done) | (simp_all <;> omega))
          refine AW.cond (b := (((((!decide (r25 = 0) || !r28) || !decide (r31 = k16)) || decide (u21.id_ < 2)) || decide (u9.next_ ≤ u21.id_)) || (decide (0 < k16) && decide (u21.id_ ≤ u34.id_)))) rfl (fun hb37 => ?_) (fun hb37 => ?_)
          · replace h := bif_t hb37 h
            refine AW.seq ?_
            refine AW.reg hS [(2, .pv (.bool false))] [.var [.pv (.int .i64 u9.id_), .pv (.int .i64 u9.next_), .pv (.slice (List.map Var.pv u9.vars_))], .var [.pv (.int .i64 u21.id_), .pv (.str u21.name_), .pv (.slice (List.map PV.str u21.values_))]] ?_ ?_
            · simp -implicitDefEqProofs only [RUNS, qindex, Nat.reduceAdd, Nat.reduceLeDiff, Nat.reduceSub, reduceIte, Nat.reduceEqDiff, Nat.reduceLT, reduceCtorEq, Nat.reduceMul, Nat.reduceBEq, Int.reduceEq, if_true, if_false, eq_self, ne_eq, env_bT, P29_eq, Var.pv_eq, P32_eq, GEnv.pv_eq, P41_eq, Redir.pv_eq, P152_eq, Cmd.pv_eq, P42_eq, Word.pv_eq, GValue.pv_eq]
            refine AW.ret ?_
            cases h
            show finish _ _ _ _ _ = _
            first | rfl | (simp [finish, resOf, renArgs, toPV, selObjs, sl])
          · replace h := bif_f hb37 h
            refine AW.skip ?_
            refine AW.reg hS [(0, .pv (.slice (List.map GEnv.pv l1))), (3, .pv (.int .i64 i4)), (4, .ref 0 0), (5, .pv (.int .i64 (IntKind.wrap .i64 (k16 + 1))))] [.var [.pv (.int .i64 u9.id_), .pv (.int .i64 u9.next_), .pv (.slice (List.map Var.pv u9.vars_))], .var [.pv (.int .i64 u21.id_), .pv (.str u21.name_), .pv (.slice (List.map PV.str u21.values_))]] ?_ ?_
            · simp -implicitDefEqProofs only [RUNS, qindex, Nat.reduceAdd, Nat.reduceLeDiff, Nat.reduceSub, reduceIte, Nat.reduceEqDiff, Nat.reduceLT, reduceCtorEq, Nat.reduceMul, Nat.reduceBEq, Int.reduceEq, if_true, if_false, eq_self, ne_eq, env_bT, T_3, P29_eq, Var.pv_eq, P32_eq, GEnv.pv_eq, P41_eq, Redir.pv_eq, P152_eq, Cmd.pv_eq, P42_eq, Word.pv_eq, GValue.pv_eq, eqT_3]
            exact ⟨(m19, IntKind.wrap .i64 (k16 + 1)), h, (Weak.norm (m := 1) (Nat.le_of_ble_eq_true rfl) ⟨rfl, rfl, rfl, rfl, trivial⟩ rfl rfl rfl), Nat.lt_succ_self _⟩
        · replace h := bif_f hb20 h
          refine AW.exit ?_
          refine AW.reg hS [(0, .pv (.slice (List.map GEnv.pv l1))), (3, .pv (.int .i64 (IntKind.wrap .i64 (i4 + 1))))] [.var [.pv (.int .i64 u9.id_), .pv (.int .i64 u9.next_), .pv (.slice (List.map Var.pv u9.vars_))]] ?_ ?_
          · simp -implicitDefEqProofs only [RUNS, qindex, Nat.reduceAdd, Nat.reduceLeDiff, Nat.reduceSub, reduceIte, Nat.reduceEqDiff, Nat.reduceLT, reduceCtorEq, Nat.reduceMul, Nat.reduceBEq, Int.reduceEq, if_true, if_false, eq_self, ne_eq, env_bT, T_3, P29_eq, Var.pv_eq, P32_eq, GEnv.pv_eq, P41_eq, Redir.pv_eq, P152_eq, Cmd.pv_eq, P42_eq, Word.pv_eq, GValue.pv_eq, eqT_3]
          exact ⟨(m7, IntKind.wrap .i64 (i4 + 1)), h, (Weak.norm (m := 0) (Nat.le_of_ble_eq_true rfl) ⟨rfl, rfl, trivial⟩ rfl rfl rfl), Nat.lt_succ_self _⟩
    · replace h := bif_f hb8 h
      refine AW.exit ?_
      refine AW.seq ?_
      refine AW.reg hS [(2, .pv (.bool true))] [] ?_ ?_
      · simp -implicitDefEqProofs only [RUNS, qindex, Nat.reduceAdd, Nat.reduceLeDiff, Nat.reduceSub, reduceIte, Nat.reduceEqDiff, Nat.reduceLT, reduceCtorEq, Nat.reduceMul, Nat.reduceBEq, Int.reduceEq, if_true, if_false, eq_self, ne_eq, env_bT, P29_eq, Var.pv_eq, P32_eq, GEnv.pv_eq, P41_eq, Redir.pv_eq, P152_eq, Cmd.pv_eq, P42_eq, Word.pv_eq, GValue.pv_eq]
      refine AW.ret ?_
      cases h
      show finish _ _ _ _ _ = _
      first | rfl | (simp [finish, resOf, renArgs, toPV, selObjs, sl])

set_option maxHeartbeats 4000000 in
theorem g_F34 {O : Orc} (hS : Sound env O) (hpf : O.pf = pfn) (l1 : List Str) (r2 : List GValue) (h : F34 l1 = some r2) : Good env 34 [.pv (.slice (List.map PV.str l1))] [] [.pv (.slice (List.map GValue.pv r2))] [] := by
  refine Good.start (fn := Tryz.f34) (N := 19) fn_34 rfl rfl (by simp) [] _ rfl rfl ?_
  rw [F34] at h
  refine AW.seq ?_
  refine AW.reg hS [(0, .pv (.slice (List.map PV.str l1)))] [] ?_ ?_
  · simp -implicitDefEqProofs only [RUNS, qindex, Nat.reduceAdd, Nat.reduceLeDiff, Nat.reduceSub, reduceIte, Nat.reduceEqDiff, Nat.reduceLT, reduceCtorEq, Nat.reduceMul, Nat.reduceBEq, Int.reduceEq, if_true, if_false, eq_self, ne_eq, env_bT, P29_eq, Var.pv_eq, P32_eq, GEnv.pv_eq, P41_eq, Redir.pv_eq, P152_eq, Cmd.pv_eq, P42_eq, Word.pv_eq, GValue.pv_eq]
  refine AW.seq ?_
  refine AW.reg hS [(0, .pv (.slice (List.map PV.str l1))), (3, .nils)] [] ?_ ?_
  · simp -implicitDefEqProofs only [RUNS, qindex, Nat.reduceAdd, Nat.reduceLeDiff, Nat.reduceSub, reduceIte, Nat.reduceEqDiff, Nat.reduceLT, reduceCtorEq, Nat.reduceMul, Nat.reduceBEq, Int.reduceEq, if_true, if_false, eq_self, ne_eq, env_bT, P29_eq, Var.pv_eq, P32_eq, GEnv.pv_eq, P41_eq, Redir.pv_eq, P152_eq, Cmd.pv_eq, P42_eq, Word.pv_eq, GValue.pv_eq]
  refine AW.weak (Weak.own 3 76 2 (by decide) rfl) ?_
  refine AW.weak (Weak.slots (L := [(0, .pv (.slice (List.map PV.str l1))), (3, .vec 0 (List.length ([] : List GValue)))]) ⟨rfl, rfl, trivial⟩) ?_
  refine AW.seq ?_
  refine AW.seq ?_
  refine AW.reg hS [(3, .vec 0 (List.length ([] : List GValue))), (6, .pv (.slice (List.map PV.str l1))), (7, .pv (.int .i64 (l1.length : Int))), (8, .pv (.int .i64 0))] [.row 76 2 (List.map GValue.pv ([] : List GValue)) true] ?_ ?_
  · simp -implicitDefEqProofs only [RUNS, qindex, Nat.reduceAdd, Nat.reduceLeDiff, Nat.reduceSub, reduceIte, Nat.reduceEqDiff, Nat.reduceLT, reduceCtorEq, Nat.reduceMul, Nat.reduceBEq, Int.reduceEq, if_true, if_false, eq_self, ne_eq, env_bT, T_9, T_29, P29_eq, Var.pv_eq, P32_eq, GEnv.pv_eq, P41_eq, Redir.pv_eq, P152_eq, Cmd.pv_eq, P42_eq, Word.pv_eq, GValue.pv_eq]
  refine AW.block ?_
  refine AW.weak (Weak.slots (L := [(3, .vec 0 (List.length ([] : List GValue))), (6, .pv (.slice (List.map PV.str l1))), (7, .pv (.int .i64 (l1.length : Int))), (8, .pv (.int .i64 0))]) ⟨rfl, rfl, rfl, rfl, trivial⟩) ?_
  refine AW.loopI (α := Nat × Int × (List GValue)) (fun (_, i3, l4) => ⟨sl [(3, .vec 0 (List.length l4)), (6, .pv (.slice (List.map PV.str l1))), (7, .pv (.int .i64 (l1.length : Int))), (8, .pv (.int .i64 i3))], 19, [.row 76 2 (List.map GValue.pv l4) true]⟩) (fun x => iter (F34_b1 l1) x.1 x.2 = some r2) (fun x => x.1) (BIG, (0, ([] : List GValue))) h ?_
  clear h
  intro ⟨n15, i3, l4⟩ h
  replace h := iter_some h; obtain ⟨m7, rfl, h⟩ := h
  rw [F34_b1] at h
  try dsimp only at h
  show AW _ _ _ _ ⟨sl [(3, .vec 0 (List.length l4)), (6, .pv (.slice (List.map PV.str l1))), (7, .pv (.int .i64 (l1.length : Int))), (8, .pv (.int .i64 i3))], 19, [.row 76 2 (List.map GValue.pv l4) true]⟩
  refine AW.seq ?_
  refine AW.reg hS [(3, .vec 0 (List.length l4)), (6, .pv (.slice (List.map PV.str l1))), (7, .pv (.int .i64 (l1.length : Int))), (8, .pv (.int .i64 i3)), (9, .pv (.bool (decide (i3 < (l1.length : Int)))))] [.row 76 2 (List.map GValue.pv l4) true] ?_ ?_
  · simp -implicitDefEqProofs only [RUNS, qindex, Nat.reduceAdd, Nat.reduceLeDiff, Nat.reduceSub, reduceIte, Nat.reduceEqDiff, Nat.reduceLT, reduceCtorEq, Nat.reduceMul, Nat.reduceBEq, Int.reduceEq, if_true, if_false, eq_self, ne_eq, env_bT, T_3, P29_eq, Var.pv_eq, P32_eq, GEnv.pv_eq, P41_eq, Redir.pv_eq, P152_eq, Cmd.pv_eq, P42_eq, Word.pv_eq, GValue.pv_eq, eqT_3]
  refine AW.seq ?_
  refine AW.cond (b := decide (i3 < (l1.length : Int))) rfl (fun hb8 => ?_) (fun hb8 => ?_)
  · replace h := bif_t hb8 h
    refine AW.skip ?_
    refine AW.seq ?_
    refine AW.block ?_
    refine AW.seq ?_
    replace h := Option.bind_eq_some_iff.1 h; obtain ⟨w9, q10, h⟩ := h
    have f11 := lidx_f q10
    refine AW.reg hS [(3, .vec 0 (List.length l4)), (5, .pv (.str w9)), (6, .pv (.slice (List.map PV.str l1))), (7, .pv (.int .i64 (l1.length : Int))), (8, .pv (.int .i64 i3))] [.row 76 2 (List.map GValue.pv l4) true] ?_ ?_
    · simp -implicitDefEqProofs only [RUNS, qindex, Nat.reduceAdd, Nat.reduceLeDiff, Nat.reduceSub, reduceIte, Nat.reduceEqDiff, Nat.reduceLT, reduceCtorEq, Nat.reduceMul, Nat.reduceBEq, Int.reduceEq, if_true, if_false, eq_self, ne_eq, env_bT, T_9, T_29, P29_eq, Var.pv_eq, P32_eq, GEnv.pv_eq, P41_eq, Redir.pv_eq, P152_eq, Cmd.pv_eq, P42_eq, Word.pv_eq, GValue.pv_eq, f11.1, f11.2.1]
    replace h := Option.bind_eq_some_iff.1 h; obtain ⟨out12, q13, h⟩ := h
    have f14 := appO_f q13
    try simp only [List.length_cons, List.length_nil, Nat.zero_add, Nat.reduceAdd, Nat.reduceLeDiff, Nat.add_zero, Nat.reduceMul] at f14
    refine AW.reg hS [(3, .vec 0 (List.length out12)), (6, .pv (.slice (List.map PV.str l1))), (7, .pv (.int .i64 (l1.length : Int))), (8, .pv (.int .i64 i3))] [.row 76 2 (List.map GValue.pv out12) true] ?_ ?_
    · simp -implicitDefEqProofs only [RUNS, qindex, Nat.reduceAdd, Nat.reduceLeDiff, Nat.reduceSub, reduceIte, Nat.reduceEqDiff, Nat.reduceLT, reduceCtorEq, Nat.reduceMul, Nat.reduceBEq, Int.reduceEq, if_true, if_false, eq_self, ne_eq, env_bT, T_69, T_76, P29_eq, Var.pv_eq, P32_eq, GEnv.pv_eq, P41_eq, Redir.pv_eq, P152_eq, Cmd.pv_eq, P42_eq, Word.pv_eq, GValue.pv_eq, ownT_76, ownT_69, f14.1, f14.2, GValue.all] <;> (try simp only [List.length_take, List.length_drop, List.length_map])
    clear f14
    refine AW.reg hS [(3, .vec 0 (List.length out12)), (6, .pv (.slice (List.map PV.str l1))), (7, .pv (.int .i64 (l1.length : Int))), (8, .pv (.int .i64 (IntKind.wrap .i64 (i3 + 1))))] [.row 76 2 (List.map GValue.pv out12) true] ?_ ?_
    · simp -implicitDefEqProofs only [RUNS, qindex, Nat.reduceAdd, Nat.reduceLeDiff, Nat.reduceSub, reduceIte, Nat.reduceEqDiff, Nat.reduceLT, reduceCtorEq, Nat.reduceMul, Nat.reduceBEq, Int.reduceEq, if_true, if_false, eq_self, ne_eq, env_bT, T_3, P29_eq, Var.pv_eq, P32_eq, GEnv.pv_eq, P41_eq, Redir.pv_eq, P152_eq, Cmd.pv_eq, P42_eq, Word.pv_eq, GValue.pv_eq, eqT_3]
    exact ⟨(m7, (IntKind.wrap .i64 (i3 + 1), out12)), h, (Weak.norm (m := 1) (Nat.le_of_ble_eq_true rfl) ⟨rfl, rfl, rfl, rfl, trivial⟩ rfl rfl rfl), Nat.lt_succ_self _⟩
  · replace h := bif_f hb8 h
    refine AW.exit ?_
    refine AW.seq ?_
    refine AW.reg hS [(2, .vec 0 (List.length l4))] [.row 76 2 (List.map GValue.pv l4) true] ?_ ?_
    · simp -implicitDefEqProofs only [RUNS, qindex, Nat.reduceAdd, Nat.reduceLeDiff, Nat.reduceSub, reduceIte, Nat.reduceEqDiff, Nat.reduceLT, reduceCtorEq, Nat.reduceMul, Nat.reduceBEq, Int.reduceEq, if_true, if_false, eq_self, ne_eq, env_bT, P29_eq, Var.pv_eq, P32_eq, GEnv.pv_eq, P41_eq, Redir.pv_eq, P152_eq, Cmd.pv_eq, P42_eq, Word.pv_eq, GValue.pv_eq]
    refine AW.ret ?_
    cases h
    show finish _ _ _ _ _ = _
    first | rfl | (simp [finish, resOf, renArgs, toPV, selObjs, sl])

set_option maxHeartbeats 4000000 in
theorem g_F47 {O : Orc} (hS : Sound env O) (hpf : O.pf = pfn) (a1 : GValue) (b2 : GValue) (r3 : GValue) (r4 : Int) (h : F47 a1 b2 = some (r3, r4)) : Good env 47 [.pv (.agg [.str a1.text_, .str a1.marks_]), .pv (.agg [.str b2.text_, .str b2.marks_])] [] [.pv (.agg [.str r3.text_, .str r3.marks_]), .pv (.int .i64 r4)] [] := by
  refine Good.start (fn := Tryz.f47) (N := 26) fn_47 rfl rfl (by simp) [] _ rfl rfl ?_
  rw [F47] at h
  refine AW.seq ?_
  refine AW.reg hS [(2, .ref 0 0), (3, .ref 1 0), (4, .ref 2 0)] [.var [.pv (.str a1.text_), .pv (.str a1.marks_)], .var [.pv (.str b2.text_), .pv (.str b2.marks_)], .var [.pv (.str []), .pv (.str [])]] ?_ ?_
  · simp -implicitDefEqProofs only [RUNS, qindex, Nat.reduceAdd, Nat.reduceLeDiff, Nat.reduceSub, reduceIte, Nat.reduceEqDiff, Nat.reduceLT, reduceCtorEq, Nat.reduceMul, Nat.reduceBEq, Int.reduceEq, if_true, if_false, eq_self, ne_eq, env_bT, T_76, P29_eq, Var.pv_eq, P32_eq, GEnv.pv_eq, P41_eq, Redir.pv_eq, P152_eq, Cmd.pv_eq, P42_eq, Word.pv_eq, GValue.pv_eq]
  refine AW.seq ?_
  refine AW.seq ?_
  refine AW.reg hS [(2, .ref 0 0), (3, .ref 1 0), (4, .ref 2 0), (13, .pv (.bool (decide (65536 < IntKind.wrap .i64 ((a1.text_.length : Int) + (b2.text_.length : Int))))))] [.var [.pv (.str a1.text_), .pv (.str a1.marks_)], .var [.pv (.str b2.text_), .pv (.str b2.marks_)], .var [.pv (.str []), .pv (.str [])]] ?_ ?_
  · simp -implicitDefEqProofs only [RUNS, qindex, Nat.reduceAdd, Nat.reduceLeDiff, Nat.reduceSub, reduceIte, Nat.reduceEqDiff, Nat.reduceLT, reduceCtorEq, Nat.reduceMul, Nat.reduceBEq, Int.reduceEq, if_true, if_false, eq_self, ne_eq, env_bT, T_3, T_9, T_76, P29_eq, Var.pv_eq, P32_eq, GEnv.pv_eq, P41_eq, Redir.pv_eq, P152_eq, Cmd.pv_eq, P42_eq, Word.pv_eq, GValue.pv_eq, eqT_3]
  refine AW.cond (b := decide (65536 < IntKind.wrap .i64 ((a1.text_.length : Int) + (b2.text_.length : Int)))) rfl (fun hb5 => ?_) (fun hb5 => ?_)
  · replace h := bif_t hb5 h
    refine AW.seq ?_
    refine AW.reg hS [(4, .ref 2 0), (5, .pv (.int .i64 4))] [.var [.pv (.str a1.text_), .pv (.str a1.marks_)], .var [.pv (.str b2.text_), .pv (.str b2.marks_)], .var [.pv (.str []), .pv (.str [])]] ?_ ?_
    · simp -implicitDefEqProofs only [RUNS, qindex, Nat.reduceAdd, Nat.reduceLeDiff, Nat.reduceSub, reduceIte, Nat.reduceEqDiff, Nat.reduceLT, reduceCtorEq, Nat.reduceMul, Nat.reduceBEq, Int.reduceEq, if_true, if_false, eq_self, ne_eq, env_bT, T_76, P29_eq, Var.pv_eq, P32_eq, GEnv.pv_eq, P41_eq, Redir.pv_eq, P152_eq, Cmd.pv_eq, P42_eq, Word.pv_eq, GValue.pv_eq, ownT_76]
    refine AW.ret ?_
    cases h
    show finish _ _ _ _ _ = _
    first | rfl | (simp [finish, resOf, renArgs, toPV, selObjs, sl])
  · replace h := bif_f hb5 h
    refine AW.skip ?_
    refine AW.seq ?_
    replace h := Option.bind_eq_some_iff.1 h; obtain ⟨s6, q7, h⟩ := h
    have f8 := catO_f q7
    try simp only [List.length_cons, List.length_nil, Nat.zero_add, Nat.reduceAdd, Nat.reduceLeDiff, Nat.add_zero, Nat.reduceMul] at f8
    replace h := Option.bind_eq_some_iff.1 h; obtain ⟨s9, q10, h⟩ := h
    have f11 := catO_f q10
    try simp only [List.length_cons, List.length_nil, Nat.zero_add, Nat.reduceAdd, Nat.reduceLeDiff, Nat.add_zero, Nat.reduceMul] at f11
    refine AW.reg hS [(4, .ref 2 0), (5, .pv (.int .i64 0))] [.var [.pv (.str a1.text_), .pv (.str a1.marks_)], .var [.pv (.str b2.text_), .pv (.str b2.marks_)], .var [.pv (.str s6), .pv (.str s9)]] ?_ ?_
    · simp -implicitDefEqProofs only [RUNS, qindex, Nat.reduceAdd, Nat.reduceLeDiff, Nat.reduceSub, reduceIte, Nat.reduceEqDiff, Nat.reduceLT, reduceCtorEq, Nat.reduceMul, Nat.reduceBEq, Int.reduceEq, if_true, if_false, eq_self, ne_eq, env_bT, T_9, T_76, P29_eq, Var.pv_eq, P32_eq, GEnv.pv_eq, P41_eq, Redir.pv_eq, P152_eq, Cmd.pv_eq, P42_eq, Word.pv_eq, GValue.pv_eq, eqT_9, f8.1, f8.2, f11.1, f11.2, ownT_76]
    refine AW.ret ?_
    cases h
    show finish _ _ _ _ _ = _
    first | rfl | (simp [finish, resOf, renArgs, toPV, selObjs, sl])

set_option maxHeartbeats 4000000 in
theorem g_F33 {O : Orc} (hS : Sound env O) (hpf : O.pf = pfn) (c_F47 : C_F47 O) (a1 : List GValue) (b2 : List GValue) (r3 : List GValue) (r4 : Int) (h : F33 a1 b2 = some (r3, r4)) : Good env 33 [.pv (.slice (List.map GValue.pv a1)), .pv (.slice (List.map GValue.pv b2))] [] [.pv (.slice (List.map GValue.pv r3)), .pv (.int .i64 r4)] [] := by
  have pf_47 : O.pf 47 = true := by rw [hpf]; rfl
  refine Good.start (fn := Tryz.f33) (N := 62) fn_33 rfl rfl (by simp) [] _ rfl rfl ?_
  rw [F33] at h
  refine AW.seq ?_
  refine AW.reg hS [(0, .pv (.slice (List.map GValue.pv a1))), (1, .pv (.slice (List.map GValue.pv b2)))] [] ?_ ?_
  · simp -implicitDefEqProofs only [RUNS, qindex, Nat.reduceAdd, Nat.reduceLeDiff, Nat.reduceSub, reduceIte, Nat.reduceEqDiff, Nat.reduceLT, reduceCtorEq, Nat.reduceMul, Nat.reduceBEq, Int.reduceEq, if_true, if_false, eq_self, ne_eq, env_bT, P29_eq, Var.pv_eq, P32_eq, GEnv.pv_eq, P41_eq, Redir.pv_eq, P152_eq, Cmd.pv_eq, P42_eq, Word.pv_eq, GValue.pv_eq]
  refine AW.seq ?_
  refine AW.reg hS [(0, .pv (.slice (List.map GValue.pv a1))), (1, .pv (.slice (List.map GValue.pv b2))), (6, .pv (.int .i64 (imax (a1.length : Int) (b2.length : Int))))] [] ?_ ?_
  · simp -implicitDefEqProofs only [RUNS, qindex, Nat.reduceAdd, Nat.reduceLeDiff, Nat.reduceSub, reduceIte, Nat.reduceEqDiff, Nat.reduceLT, reduceCtorEq, Nat.reduceMul, Nat.reduceBEq, Int.reduceEq, if_true, if_false, eq_self, ne_eq, env_bT, T_3, T_69, T_76, P29_eq, Var.pv_eq, P32_eq, GEnv.pv_eq, P41_eq, Redir.pv_eq, P152_eq, Cmd.pv_eq, P42_eq, Word.pv_eq, GValue.pv_eq]
  refine AW.seq ?_
  refine AW.seq ?_
  refine AW.reg hS [(0, .pv (.slice (List.map GValue.pv a1))), (1, .pv (.slice (List.map GValue.pv b2))), (6, .pv (.int .i64 (imax (a1.length : Int) (b2.length : Int)))), (28, .pv (.bool (!decide ((a1.length : Int) = (b2.length : Int)) && !decide (imin (a1.length : Int) (b2.length : Int) = 1))))] [] ?_ ?_
  · clear h
    (simp -implicitDefEqProofs only [RUNS, qindex, Nat.reduceAdd, Nat.reduceLeDiff, Nat.reduceSub, reduceIte, Nat.reduceEqDiff, Nat.reduceLT, reduceCtorEq, Nat.reduceMul, Nat.reduceBEq, Int.reduceEq, if_true, if_false, eq_self, ne_eq, env_bT, T_3, T_69, T_76, P29_eq, Var.pv_eq, P32_eq, GEnv.pv_eq, P41_eq, Redir.pv_eq, P152_eq, Cmd.pv_eq, P42_eq, Word.pv_eq, GValue.pv_eq, eqT_3]); repeat' (split <;> rename_i hb <;> (try simp only [HBS, ge_iff_le, gt_iff_lt] at hb) <;> simp -implicitDefEqProofs only [RUNS, qindex, Nat.reduceAdd, Nat.reduceLeDiff, Nat.reduceSub, reduceIte, Nat.reduceEqDiff, Nat.reduceLT, reduceCtorEq, Nat.reduceMul, Nat.reduceBEq, Int.reduceEq, if_true, if_false, eq_self, ne_eq, env_bT, T_3, T_69, T_76, P29_eq, Var.pv_eq, P32_eq, GEnv.pv_eq, P41_eq, Redir.pv_eq, P152_eq, Cmd.pv_eq, P42_eq, Word.pv_eq, GValue.pv_eq, eqT_3, *, decide_true, decide_false, Decidable.not_not, not_false_eq_true, not_true_eq_false])
    all_goals (first | (simp only [BOOLS]; done) | (simp [*]; done) | ((try simp only [CLOS, beq_iff_eq, bne_iff_ne, ne_eq] at *) <;> omega) | (simp_all; done) | (simp_all <;> omega))
  refine AW.cond (b := (!decide ((a1.length : Int) = (b2.length : Int)) && !decide (imin (a1.length : Int) (b2.length : Int) = 1))) rfl (fun hb5 => ?_) (fun hb5 => ?_)
  · replace h := bif_t hb5 h
    refine AW.seq ?_
    refine AW.reg hS [(4, .nils), (5, .pv (.int .i64 1))] [] ?_ ?_
    · simp -implicitDefEqProofs only [RUNS, qindex, Nat.reduceAdd, Nat.reduceLeDiff, Nat.reduceSub, reduceIte, Nat.reduceEqDiff, Nat.reduceLT, reduceCtorEq, Nat.reduceMul, Nat.reduceBEq, Int.reduceEq, if_true, if_false, eq_self, ne_eq, env_bT, P29_eq, Var.pv_eq, P32_eq, GEnv.pv_eq, P41_eq, Redir.pv_eq, P152_eq, Cmd.pv_eq, P42_eq, Word.pv_eq, GValue.pv_eq]
    refine AW.ret ?_
    cases h
    show finish _ _ _ _ _ = _
    first | rfl | (simp [finish, resOf, renArgs, toPV, selObjs, sl])
  · replace h := bif_f hb5 h
    refine AW.skip ?_
    refine AW.seq ?_
    refine AW.reg hS [(0, .pv (.slice (List.map GValue.pv a1))), (1, .pv (.slice (List.map GValue.pv b2))), (6, .pv (.int .i64 (imax (a1.length : Int) (b2.length : Int)))), (7, .nils)] [] ?_ ?_
    · simp -implicitDefEqProofs only [RUNS, qindex, Nat.reduceAdd, Nat.reduceLeDiff, Nat.reduceSub, reduceIte, Nat.reduceEqDiff, Nat.reduceLT, reduceCtorEq, Nat.reduceMul, Nat.reduceBEq, Int.reduceEq, if_true, if_false, eq_self, ne_eq, env_bT, P29_eq, Var.pv_eq, P32_eq, GEnv.pv_eq, P41_eq, Redir.pv_eq, P152_eq, Cmd.pv_eq, P42_eq, Word.pv_eq, GValue.pv_eq]
    refine AW.weak (Weak.own 7 76 2 (by decide) rfl) ?_
    refine AW.weak (Weak.slots (L := [(0, .pv (.slice (List.map GValue.pv a1))), (1, .pv (.slice (List.map GValue.pv b2))), (6, .pv (.int .i64 (imax (a1.length : Int) (b2.length : Int)))), (7, .vec 0 (List.length ([] : List GValue)))]) ⟨rfl, rfl, rfl, rfl, trivial⟩) ?_
    refine AW.seq ?_
    refine AW.seq ?_
    refine AW.reg hS [(0, .pv (.slice (List.map GValue.pv a1))), (1, .pv (.slice (List.map GValue.pv b2))), (7, .vec 0 (List.length ([] : List GValue))), (29, .pv (.int .i64 (imax (a1.length : Int) (b2.length : Int)))), (30, .pv (.int .i64 0))] [.row 76 2 (List.map GValue.pv ([] : List GValue)) true] ?_ ?_
    · simp -implicitDefEqProofs only [RUNS, qindex, Nat.reduceAdd, Nat.reduceLeDiff, Nat.reduceSub, reduceIte, Nat.reduceEqDiff, Nat.reduceLT, reduceCtorEq, Nat.reduceMul, Nat.reduceBEq, Int.reduceEq, if_true, if_false, eq_self, ne_eq, env_bT, P29_eq, Var.pv_eq, P32_eq, GEnv.pv_eq, P41_eq, Redir.pv_eq, P152_eq, Cmd.pv_eq, P42_eq, Word.pv_eq, GValue.pv_eq]
    refine AW.block ?_
    refine AW.weak (Weak.slots (L := [(0, .pv (.slice (List.map GValue.pv a1))), (1, .pv (.slice (List.map GValue.pv b2))), (7, .vec 0 (List.length ([] : List GValue))), (29, .pv (.int .i64 (imax (a1.length : Int) (b2.length : Int)))), (30, .pv (.int .i64 0))]) ⟨rfl, rfl, rfl, rfl, rfl, trivial⟩) ?_
    refine AW.loopI (α := Nat × Int × (List GValue)) (fun (_, i6, l7) => ⟨sl [(0, .pv (.slice (List.map GValue.pv a1))), (1, .pv (.slice (List.map GValue.pv b2))), (7, .vec 0 (List.length l7)), (29, .pv (.int .i64 (imax (a1.length : Int) (b2.length : Int)))), (30, .pv (.int .i64 i6))], 62, [.row 76 2 (List.map GValue.pv l7) true]⟩) (fun x => iter (F33_b1 a1 b2) x.1 x.2 = some (r3, r4)) (fun x => x.1) (BIG, (0, ([] : List GValue))) h ?_
    clear h
    intro ⟨n26, i6, l7⟩ h
    replace h := iter_some h; obtain ⟨m10, rfl, h⟩ := h
    rw [F33_b1] at h
    try dsimp only at h
    show AW _ _ _ _ ⟨sl [(0, .pv (.slice (List.map GValue.pv a1))), (1, .pv (.slice (List.map GValue.pv b2))), (7, .vec 0 (List.length l7)), (29, .pv (.int .i64 (imax (a1.length : Int) (b2.length : Int)))), (30, .pv (.int .i64 i6))], 62, [.row 76 2 (List.map GValue.pv l7) true]⟩
    refine AW.seq ?_
    refine AW.reg hS [(0, .pv (.slice (List.map GValue.pv a1))), (1, .pv (.slice (List.map GValue.pv b2))), (7, .vec 0 (List.length l7)), (29, .pv (.int .i64 (imax (a1.length : Int) (b2.length : Int)))), (30, .pv (.int .i64 i6)), (31, .pv (.bool (decide (i6 < imax (a1.length : Int) (b2.length : Int)))))] [.row 76 2 (List.map GValue.pv l7) true] ?_ ?_
    · simp -implicitDefEqProofs only [RUNS, qindex, Nat.reduceAdd, Nat.reduceLeDiff, Nat.reduceSub, reduceIte, Nat.reduceEqDiff, Nat.reduceLT, reduceCtorEq, Nat.reduceMul, Nat.reduceBEq, Int.reduceEq, if_true, if_false, eq_self, ne_eq, env_bT, T_3, P29_eq, Var.pv_eq, P32_eq, GEnv.pv_eq, P41_eq, Redir.pv_eq, P152_eq, Cmd.pv_eq, P42_eq, Word.pv_eq, GValue.pv_eq, eqT_3]
    refine AW.seq ?_
    refine AW.cond (b := decide (i6 < imax (a1.length : Int) (b2.length : Int))) rfl (fun hb11 => ?_) (fun hb11 => ?_)
    · replace h := bif_t hb11 h
      refine AW.skip ?_
      refine AW.seq ?_
      refine AW.block ?_
      refine AW.seq ?_
      refine AW.reg hS [(0, .pv (.slice (List.map GValue.pv a1))), (1, .pv (.slice (List.map GValue.pv b2))), (7, .vec 0 (List.length l7)), (8, .pv (.int .i64 i6)), (29, .pv (.int .i64 (imax (a1.length : Int) (b2.length : Int)))), (30, .pv (.int .i64 i6))] [.row 76 2 (List.map GValue.pv l7) true] ?_ ?_
      · simp -implicitDefEqProofs only [RUNS, qindex, Nat.reduceAdd, Nat.reduceLeDiff, Nat.reduceSub, reduceIte, Nat.reduceEqDiff, Nat.reduceLT, reduceCtorEq, Nat.reduceMul, Nat.reduceBEq, Int.reduceEq, if_true, if_false, eq_self, ne_eq, env_bT, P29_eq, Var.pv_eq, P32_eq, GEnv.pv_eq, P41_eq, Redir.pv_eq, P152_eq, Cmd.pv_eq, P42_eq, Word.pv_eq, GValue.pv_eq]
      refine AW.seq ?_
      replace h := Option.bind_eq_some_iff.1 h; obtain ⟨u12, q13, h⟩ := h
      have f14 := lidx_f q13
      replace h := Option.bind_eq_some_iff.1 h; obtain ⟨u15, q16, h⟩ := h
      have f17 := lidx_f q16
      replace h := Option.bind_eq_some_iff.1 h; obtain ⟨⟨r18, r19⟩, q20, h⟩ := h
      dsimp only at h
      have f21 := c_F47 u12 u15 r18 r19 q20
      try dsimp only at f21
      refine AW.dregB mixed hS [(40, none), (48, none)] rfl (hpf ▸ (by kernel_rfl : orderOKB pfn [(40, none), (48, none)] _ = true)) [(0, .pv (.slice (List.map GValue.pv a1))), (1, .pv (.slice (List.map GValue.pv b2))), (7, .vec 0 (List.length l7)), (9, .ref 1 0), (10, .pv (.int .i64 r19)), (29, .pv (.int .i64 (imax (a1.length : Int) (b2.length : Int)))), (30, .pv (.int .i64 i6))] [.row 76 2 (List.map GValue.pv l7) true, .var [.pv (.str r18.text_), .pv (.str r18.marks_)]] ?_ ?_
      · simp -implicitDefEqProofs only [RUNS, qindex, Nat.reduceAdd, Nat.reduceLeDiff, Nat.reduceSub, reduceIte, Nat.reduceEqDiff, Nat.reduceLT, reduceCtorEq, Nat.reduceMul, Nat.reduceBEq, Int.reduceEq, if_true, if_false, eq_self, ne_eq, env_bT, T_3, T_69, T_76, P29_eq, Var.pv_eq, P32_eq, GEnv.pv_eq, P41_eq, Redir.pv_eq, P152_eq, Cmd.pv_eq, P42_eq, Word.pv_eq, GValue.pv_eq, eqT_3, f14.1, f14.2.1, f17.1, f17.2.1, pf_47, f21]
      refine AW.seq ?_
      refine AW.seq ?_
      refine AW.reg hS [(0, .pv (.slice (List.map GValue.pv a1))), (1, .pv (.slice (List.map GValue.pv b2))), (7, .vec 0 (List.length l7)), (9, .ref 1 0), (10, .pv (.int .i64 r19)), (29, .pv (.int .i64 (imax (a1.length : Int) (b2.length : Int)))), (30, .pv (.int .i64 i6)), (54, .pv (.bool (!decide (r19 = 0))))] [.row 76 2 (List.map GValue.pv l7) true, .var [.pv (.str r18.text_), .pv (.str r18.marks_)]] ?_ ?_
      · simp -implicitDefEqProofs only [RUNS, qindex, Nat.reduceAdd, Nat.reduceLeDiff, Nat.reduceSub, reduceIte, Nat.reduceEqDiff, Nat.reduceLT, reduceCtorEq, Nat.reduceMul, Nat.reduceBEq, Int.reduceEq, if_true, if_false, eq_self, ne_eq, env_bT, T_25, P29_eq, Var.pv_eq, P32_eq, GEnv.pv_eq, P41_eq, Redir.pv_eq, P152_eq, Cmd.pv_eq, P42_eq, Word.pv_eq, GValue.pv_eq, eqT_25]
      refine AW.cond (b := !decide (r19 = 0)) rfl (fun hb22 => ?_) (fun hb22 => ?_)
      · replace h := bif_t hb22 h
        refine AW.seq ?_
        refine AW.reg hS [(4, .nils), (5, .pv (.int .i64 r19))] [.row 76 2 (List.map GValue.pv l7) true, .var [.pv (.str r18.text_), .pv (.str r18.marks_)]] ?_ ?_
        · simp -implicitDefEqProofs only [RUNS, qindex, Nat.reduceAdd, Nat.reduceLeDiff, Nat.reduceSub, reduceIte, Nat.reduceEqDiff, Nat.reduceLT, reduceCtorEq, Nat.reduceMul, Nat.reduceBEq, Int.reduceEq, if_true, if_false, eq_self, ne_eq, env_bT, P29_eq, Var.pv_eq, P32_eq, GEnv.pv_eq, P41_eq, Redir.pv_eq, P152_eq, Cmd.pv_eq, P42_eq, Word.pv_eq, GValue.pv_eq]
        refine AW.ret ?_
        cases h
        show finish _ _ _ _ _ = _
        first | rfl | (simp [finish, resOf, renArgs, toPV, selObjs, sl])
      · replace h := bif_f hb22 h
        refine AW.skip ?_
        replace h := Option.bind_eq_some_iff.1 h; obtain ⟨out23, q24, h⟩ := h
        have f25 := appO_f q24
        try simp only [List.length_cons, List.length_nil, Nat.zero_add, Nat.reduceAdd, Nat.reduceLeDiff, Nat.add_zero, Nat.reduceMul] at f25
        refine AW.reg hS [(0, .pv (.slice (List.map GValue.pv a1))), (1, .pv (.slice (List.map GValue.pv b2))), (7, .vec 0 (List.length out23)), (29, .pv (.int .i64 (imax (a1.length : Int) (b2.length : Int)))), (30, .pv (.int .i64 i6))] [.row 76 2 (List.map GValue.pv out23) true, .var [.pv (.str r18.text_), .pv (.str r18.marks_)]] ?_ ?_
        · simp -implicitDefEqProofs only [RUNS, qindex, Nat.reduceAdd, Nat.reduceLeDiff, Nat.reduceSub, reduceIte, Nat.reduceEqDiff, Nat.reduceLT, reduceCtorEq, Nat.reduceMul, Nat.reduceBEq, Int.reduceEq, if_true, if_false, eq_self, ne_eq, env_bT, T_69, T_76, P29_eq, Var.pv_eq, P32_eq, GEnv.pv_eq, P41_eq, Redir.pv_eq, P152_eq, Cmd.pv_eq, P42_eq, Word.pv_eq, GValue.pv_eq, ownT_69, f25.1, f25.2, GValue.all] <;> (try simp only [List.length_take, List.length_drop, List.length_map])
        clear f25
        refine AW.reg hS [(0, .pv (.slice (List.map GValue.pv a1))), (1, .pv (.slice (List.map GValue.pv b2))), (7, .vec 0 (List.length out23)), (29, .pv (.int .i64 (imax (a1.length : Int) (b2.length : Int)))), (30, .pv (.int .i64 (IntKind.wrap .i64 (i6 + 1))))] [.row 76 2 (List.map GValue.pv out23) true, .var [.pv (.str r18.text_), .pv (.str r18.marks_)]] ?_ ?_
        · simp -implicitDefEqProofs only [RUNS, qindex, Nat.reduceAdd, Nat.reduceLeDiff, Nat.reduceSub, reduceIte, Nat.reduceEqDiff, Nat.reduceLT, reduceCtorEq, Nat.reduceMul, Nat.reduceBEq, Int.reduceEq, if_true, if_false, eq_self, ne_eq, env_bT, T_3, P29_eq, Var.pv_eq, P32_eq, GEnv.pv_eq, P41_eq, Redir.pv_eq, P152_eq, Cmd.pv_eq, P42_eq, Word.pv_eq, GValue.pv_eq, eqT_3]
        exact ⟨(m10, (IntKind.wrap .i64 (i6 + 1), out23)), h, (Weak.norm (m := 1) (Nat.le_of_ble_eq_true rfl) ⟨rfl, rfl, rfl, rfl, rfl, trivial⟩ rfl rfl rfl), Nat.lt_succ_self _⟩
    · replace h := bif_f hb11 h
      refine AW.exit ?_
      refine AW.seq ?_
      refine AW.reg hS [(4, .vec 0 (List.length l7)), (5, .pv (.int .i64 0))] [.row 76 2 (List.map GValue.pv l7) true] ?_ ?_
      · simp -implicitDefEqProofs only [RUNS, qindex, Nat.reduceAdd, Nat.reduceLeDiff, Nat.reduceSub, reduceIte, Nat.reduceEqDiff, Nat.reduceLT, reduceCtorEq, Nat.reduceMul, Nat.reduceBEq, Int.reduceEq, if_true, if_false, eq_self, ne_eq, env_bT, P29_eq, Var.pv_eq, P32_eq, GEnv.pv_eq, P41_eq, Redir.pv_eq, P152_eq, Cmd.pv_eq, P42_eq, Word.pv_eq, GValue.pv_eq]
      refine AW.ret ?_
      cases h
      show finish _ _ _ _ _ = _
      first | rfl | (simp [finish, resOf, renArgs, toPV, selObjs, sl])

set_option maxHeartbeats 4000000 in
theorem g_F35 {O : Orc} (hS : Sound env O) (hpf : O.pf = pfn) (l1 : List GValue) (r2 : List Str) (h : F35 l1 = some r2) : Good env 35 [.pv (.slice (List.map GValue.pv l1))] [] [.pv (.slice (List.map PV.str r2))] [] := by
  refine Good.start (fn := Tryz.f35) (N := 19) fn_35 rfl rfl (by simp) [] _ rfl rfl ?_
  rw [F35] at h
  refine AW.seq ?_
  refine AW.reg hS [(0, .pv (.slice (List.map GValue.pv l1)))] [] ?_ ?_
  · simp -implicitDefEqProofs only [RUNS, qindex, Nat.reduceAdd, Nat.reduceLeDiff, Nat.reduceSub, reduceIte, Nat.reduceEqDiff, Nat.reduceLT, reduceCtorEq, Nat.reduceMul, Nat.reduceBEq, Int.reduceEq, if_true, if_false, eq_self, ne_eq, env_bT, P29_eq, Var.pv_eq, P32_eq, GEnv.pv_eq, P41_eq, Redir.pv_eq, P152_eq, Cmd.pv_eq, P42_eq, Word.pv_eq, GValue.pv_eq]
  refine AW.seq ?_
  refine AW.reg hS [(0, .pv (.slice (List.map GValue.pv l1))), (3, .nils)] [] ?_ ?_
  · simp -implicitDefEqProofs only [RUNS, qindex, Nat.reduceAdd, Nat.reduceLeDiff, Nat.reduceSub, reduceIte, Nat.reduceEqDiff, Nat.reduceLT, reduceCtorEq, Nat.reduceMul, Nat.reduceBEq, Int.reduceEq, if_true, if_false, eq_self, ne_eq, env_bT, P29_eq, Var.pv_eq, P32_eq, GEnv.pv_eq, P41_eq, Redir.pv_eq, P152_eq, Cmd.pv_eq, P42_eq, Word.pv_eq, GValue.pv_eq]
  refine AW.weak (Weak.own 3 9 1 (by decide) rfl) ?_
  refine AW.weak (Weak.slots (L := [(0, .pv (.slice (List.map GValue.pv l1))), (3, .vec 0 (List.length ([] : List Str)))]) ⟨rfl, rfl, trivial⟩) ?_
  refine AW.seq ?_
  refine AW.seq ?_
  refine AW.reg hS [(3, .vec 0 (List.length ([] : List Str))), (6, .pv (.slice (List.map GValue.pv l1))), (7, .pv (.int .i64 (l1.length : Int))), (8, .pv (.int .i64 0))] [.row 9 1 (List.map PV.str ([] : List Str)) true] ?_ ?_
  · simp -implicitDefEqProofs only [RUNS, qindex, Nat.reduceAdd, Nat.reduceLeDiff, Nat.reduceSub, reduceIte, Nat.reduceEqDiff, Nat.reduceLT, reduceCtorEq, Nat.reduceMul, Nat.reduceBEq, Int.reduceEq, if_true, if_false, eq_self, ne_eq, env_bT, T_69, T_76, P29_eq, Var.pv_eq, P32_eq, GEnv.pv_eq, P41_eq, Redir.pv_eq, P152_eq, Cmd.pv_eq, P42_eq, Word.pv_eq, GValue.pv_eq]
  refine AW.block ?_
  refine AW.weak (Weak.slots (L := [(3, .vec 0 (List.length ([] : List Str))), (6, .pv (.slice (List.map GValue.pv l1))), (7, .pv (.int .i64 (l1.length : Int))), (8, .pv (.int .i64 0))]) ⟨rfl, rfl, rfl, rfl, trivial⟩) ?_
  refine AW.loopI (α := Nat × Int × (List Str)) (fun (_, i3, l4) => ⟨sl [(3, .vec 0 (List.length l4)), (6, .pv (.slice (List.map GValue.pv l1))), (7, .pv (.int .i64 (l1.length : Int))), (8, .pv (.int .i64 i3))], 19, [.row 9 1 (List.map PV.str l4) true]⟩) (fun x => iter (F35_b1 l1) x.1 x.2 = some r2) (fun x => x.1) (BIG, (0, ([] : List Str))) h ?_
  clear h
  intro ⟨n15, i3, l4⟩ h
  replace h := iter_some h; obtain ⟨m7, rfl, h⟩ := h
  rw [F35_b1] at h
  try dsimp only at h
  show AW _ _ _ _ ⟨sl [(3, .vec 0 (List.length l4)), (6, .pv (.slice (List.map GValue.pv l1))), (7, .pv (.int .i64 (l1.length : Int))), (8, .pv (.int .i64 i3))], 19, [.row 9 1 (List.map PV.str l4) true]⟩
  refine AW.seq ?_
  refine AW.reg hS [(3, .vec 0 (List.length l4)), (6, .pv (.slice (List.map GValue.pv l1))), (7, .pv (.int .i64 (l1.length : Int))), (8, .pv (.int .i64 i3)), (9, .pv (.bool (decide (i3 < (l1.length : Int)))))] [.row 9 1 (List.map PV.str l4) true] ?_ ?_
  · simp -implicitDefEqProofs only [RUNS, qindex, Nat.reduceAdd, Nat.reduceLeDiff, Nat.reduceSub, reduceIte, Nat.reduceEqDiff, Nat.reduceLT, reduceCtorEq, Nat.reduceMul, Nat.reduceBEq, Int.reduceEq, if_true, if_false, eq_self, ne_eq, env_bT, T_3, P29_eq, Var.pv_eq, P32_eq, GEnv.pv_eq, P41_eq, Redir.pv_eq, P152_eq, Cmd.pv_eq, P42_eq, Word.pv_eq, GValue.pv_eq, eqT_3]
  refine AW.seq ?_
  refine AW.cond (b := decide (i3 < (l1.length : Int))) rfl (fun hb8 => ?_) (fun hb8 => ?_)
  · replace h := bif_t hb8 h
    refine AW.skip ?_
    refine AW.seq ?_
    refine AW.block ?_
    refine AW.seq ?_
    replace h := Option.bind_eq_some_iff.1 h; obtain ⟨u9, q10, h⟩ := h
    have f11 := lidx_f q10
    refine AW.reg hS [(3, .vec 0 (List.length l4)), (5, .ref 1 0), (6, .pv (.slice (List.map GValue.pv l1))), (7, .pv (.int .i64 (l1.length : Int))), (8, .pv (.int .i64 i3))] [.row 9 1 (List.map PV.str l4) true, .var [.pv (.str u9.text_), .pv (.str u9.marks_)]] ?_ ?_
    · simp -implicitDefEqProofs only [RUNS, qindex, Nat.reduceAdd, Nat.reduceLeDiff, Nat.reduceSub, reduceIte, Nat.reduceEqDiff, Nat.reduceLT, reduceCtorEq, Nat.reduceMul, Nat.reduceBEq, Int.reduceEq, if_true, if_false, eq_self, ne_eq, env_bT, T_69, T_76, P29_eq, Var.pv_eq, P32_eq, GEnv.pv_eq, P41_eq, Redir.pv_eq, P152_eq, Cmd.pv_eq, P42_eq, Word.pv_eq, GValue.pv_eq, f11.1, f11.2.1]
    replace h := Option.bind_eq_some_iff.1 h; obtain ⟨out12, q13, h⟩ := h
    have f14 := appO_f q13
    try simp only [List.length_cons, List.length_nil, Nat.zero_add, Nat.reduceAdd, Nat.reduceLeDiff, Nat.add_zero, Nat.reduceMul] at f14
    refine AW.reg hS [(3, .vec 0 (List.length out12)), (6, .pv (.slice (List.map GValue.pv l1))), (7, .pv (.int .i64 (l1.length : Int))), (8, .pv (.int .i64 i3))] [.row 9 1 (List.map PV.str out12) true, .var [.pv (.str u9.text_), .pv (.str u9.marks_)]] ?_ ?_
    · simp -implicitDefEqProofs only [RUNS, qindex, Nat.reduceAdd, Nat.reduceLeDiff, Nat.reduceSub, reduceIte, Nat.reduceEqDiff, Nat.reduceLT, reduceCtorEq, Nat.reduceMul, Nat.reduceBEq, Int.reduceEq, if_true, if_false, eq_self, ne_eq, env_bT, T_9, T_29, T_76, P29_eq, Var.pv_eq, P32_eq, GEnv.pv_eq, P41_eq, Redir.pv_eq, P152_eq, Cmd.pv_eq, P42_eq, Word.pv_eq, GValue.pv_eq, ownT_29, f14.1, f14.2, str_all] <;> (try simp only [List.length_take, List.length_drop, List.length_map])
    clear f14
    refine AW.reg hS [(3, .vec 0 (List.length out12)), (6, .pv (.slice (List.map GValue.pv l1))), (7, .pv (.int .i64 (l1.length : Int))), (8, .pv (.int .i64 (IntKind.wrap .i64 (i3 + 1))))] [.row 9 1 (List.map PV.str out12) true, .var [.pv (.str u9.text_), .pv (.str u9.marks_)]] ?_ ?_
    · simp -implicitDefEqProofs only [RUNS, qindex, Nat.reduceAdd, Nat.reduceLeDiff, Nat.reduceSub, reduceIte, Nat.reduceEqDiff, Nat.reduceLT, reduceCtorEq, Nat.reduceMul, Nat.reduceBEq, Int.reduceEq, if_true, if_false, eq_self, ne_eq, env_bT, T_3, P29_eq, Var.pv_eq, P32_eq, GEnv.pv_eq, P41_eq, Redir.pv_eq, P152_eq, Cmd.pv_eq, P42_eq, Word.pv_eq, GValue.pv_eq, eqT_3]
    exact ⟨(m7, (IntKind.wrap .i64 (i3 + 1), out12)), h, (Weak.norm (m := 1) (Nat.le_of_ble_eq_true rfl) ⟨rfl, rfl, rfl, rfl, trivial⟩ rfl rfl rfl), Nat.lt_succ_self _⟩
  · replace h := bif_f hb8 h
    refine AW.exit ?_
    refine AW.seq ?_
    refine AW.reg hS [(2, .vec 0 (List.length l4))] [.row 9 1 (List.map PV.str l4) true] ?_ ?_
    · simp -implicitDefEqProofs only [RUNS, qindex, Nat.reduceAdd, Nat.reduceLeDiff, Nat.reduceSub, reduceIte, Nat.reduceEqDiff, Nat.reduceLT, reduceCtorEq, Nat.reduceMul, Nat.reduceBEq, Int.reduceEq, if_true, if_false, eq_self, ne_eq, env_bT, P29_eq, Var.pv_eq, P32_eq, GEnv.pv_eq, P41_eq, Redir.pv_eq, P152_eq, Cmd.pv_eq, P42_eq, Word.pv_eq, GValue.pv_eq]
    refine AW.ret ?_
    cases h
    show finish _ _ _ _ _ = _
    first | rfl | (simp [finish, resOf, renArgs, toPV, selObjs, sl])

set_option maxHeartbeats 4000000 in
theorem g_F16 {O : Orc} (hS : Sound env O) (hpf : O.pf = pfn) (c_F34 : C_F34 O) (c_F33 : C_F33 O) (c_F35 : C_F35 O) (a1 : List Str) (b2 : List Str) (r3 : List Str) (r4 : Int) (h : F16 a1 b2 = some (r3, r4)) : Good env 16 [.pv (.slice (List.map PV.str a1)), .pv (.slice (List.map PV.str b2))] [] [.pv (.slice (List.map PV.str r3)), .pv (.int .i64 r4)] [] := by
  have pf_33 : O.pf 33 = true := by rw [hpf]; rfl
  have pf_34 : O.pf 34 = true := by rw [hpf]; rfl
  have pf_35 : O.pf 35 = true := by rw [hpf]; rfl
  refine Good.start (fn := Tryz.f16) (N := 21) fn_16 rfl rfl (by simp) [] _ rfl rfl ?_
  rw [F16] at h
  refine AW.seq ?_
  refine AW.reg hS [(0, .pv (.slice (List.map PV.str a1))), (1, .pv (.slice (List.map PV.str b2)))] [] ?_ ?_
  · simp -implicitDefEqProofs only [RUNS, qindex, Nat.reduceAdd, Nat.reduceLeDiff, Nat.reduceSub, reduceIte, Nat.reduceEqDiff, Nat.reduceLT, reduceCtorEq, Nat.reduceMul, Nat.reduceBEq, Int.reduceEq, if_true, if_false, eq_self, ne_eq, env_bT, P29_eq, Var.pv_eq, P32_eq, GEnv.pv_eq, P41_eq, Redir.pv_eq, P152_eq, Cmd.pv_eq, P42_eq, Word.pv_eq, GValue.pv_eq]
  refine AW.seq ?_
  replace h := Option.bind_eq_some_iff.1 h; obtain ⟨r5, q6, h⟩ := h
  have f7 := c_F34 a1 r5 q6
  try dsimp only at f7
  replace h := Option.bind_eq_some_iff.1 h; obtain ⟨r8, q9, h⟩ := h
  have f10 := c_F34 b2 r8 q9
  try dsimp only at f10
  replace h := Option.bind_eq_some_iff.1 h; obtain ⟨⟨r11, r12⟩, q13, h⟩ := h
  dsimp only at h
  have f14 := c_F33 r5 r8 r11 r12 q13
  try dsimp only at f14
  refine AW.reg hS [(6, .pv (.slice (List.map GValue.pv r11))), (7, .pv (.int .i64 r12))] [] ?_ ?_
  · simp -implicitDefEqProofs only [RUNS, qindex, Nat.reduceAdd, Nat.reduceLeDiff, Nat.reduceSub, reduceIte, Nat.reduceEqDiff, Nat.reduceLT, reduceCtorEq, Nat.reduceMul, Nat.reduceBEq, Int.reduceEq, if_true, if_false, eq_self, ne_eq, env_bT, T_9, T_29, T_69, T_76, P29_eq, Var.pv_eq, P32_eq, GEnv.pv_eq, P41_eq, Redir.pv_eq, P152_eq, Cmd.pv_eq, P42_eq, Word.pv_eq, GValue.pv_eq, pf_34, f7, f10, pf_33, f14]
  refine AW.seq ?_
  refine AW.seq ?_
  refine AW.reg hS [(6, .pv (.slice (List.map GValue.pv r11))), (7, .pv (.int .i64 r12)), (17, .pv (.bool (!decide (r12 = 0))))] [] ?_ ?_
  · simp -implicitDefEqProofs only [RUNS, qindex, Nat.reduceAdd, Nat.reduceLeDiff, Nat.reduceSub, reduceIte, Nat.reduceEqDiff, Nat.reduceLT, reduceCtorEq, Nat.reduceMul, Nat.reduceBEq, Int.reduceEq, if_true, if_false, eq_self, ne_eq, env_bT, T_25, P29_eq, Var.pv_eq, P32_eq, GEnv.pv_eq, P41_eq, Redir.pv_eq, P152_eq, Cmd.pv_eq, P42_eq, Word.pv_eq, GValue.pv_eq, eqT_25]
  refine AW.cond (b := !decide (r12 = 0)) rfl (fun hb15 => ?_) (fun hb15 => ?_)
  · replace h := bif_t hb15 h
    refine AW.seq ?_
    refine AW.reg hS [(4, .nils), (5, .pv (.int .i64 r12))] [] ?_ ?_
    · simp -implicitDefEqProofs only [RUNS, qindex, Nat.reduceAdd, Nat.reduceLeDiff, Nat.reduceSub, reduceIte, Nat.reduceEqDiff, Nat.reduceLT, reduceCtorEq, Nat.reduceMul, Nat.reduceBEq, Int.reduceEq, if_true, if_false, eq_self, ne_eq, env_bT, P29_eq, Var.pv_eq, P32_eq, GEnv.pv_eq, P41_eq, Redir.pv_eq, P152_eq, Cmd.pv_eq, P42_eq, Word.pv_eq, GValue.pv_eq]
    refine AW.ret ?_
    cases h
    show finish _ _ _ _ _ = _
    first | rfl | (simp [finish, resOf, renArgs, toPV, selObjs, sl])
  · replace h := bif_f hb15 h
    refine AW.skip ?_
    refine AW.seq ?_
    replace h := Option.bind_eq_some_iff.1 h; obtain ⟨r16, q17, h⟩ := h
    have f18 := c_F35 r11 r16 q17
    try dsimp only at f18
    refine AW.reg hS [(4, .pv (.slice (List.map PV.str r16))), (5, .pv (.int .i64 0))] [] ?_ ?_
    · simp -implicitDefEqProofs only [RUNS, qindex, Nat.reduceAdd, Nat.reduceLeDiff, Nat.reduceSub, reduceIte, Nat.reduceEqDiff, Nat.reduceLT, reduceCtorEq, Nat.reduceMul, Nat.reduceBEq, Int.reduceEq, if_true, if_false, eq_self, ne_eq, env_bT, T_69, T_76, P29_eq, Var.pv_eq, P32_eq, GEnv.pv_eq, P41_eq, Redir.pv_eq, P152_eq, Cmd.pv_eq, P42_eq, Word.pv_eq, GValue.pv_eq, pf_35, f18]
    refine AW.ret ?_
    cases h
    show finish _ _ _ _ _ = _
    first | rfl | (simp [finish, resOf, renArgs, toPV, selObjs, sl])

set_option maxHeartbeats 4000000 in
theorem g_F18 {O : Orc} (hS : Sound env O) (hpf : O.pf = pfn)  (r1 : List GEnv) (h : F18 = some r1) : Good env 18 [] [] [.pv (.slice (List.map GEnv.pv r1))] [] := by
  refine Good.start (fn := Tryz.f18) (N := 8) fn_18 rfl rfl (by simp) [] _ rfl rfl ?_
  rw [F18] at h
  refine AW.seq ?_
  refine AW.reg hS [] [] ?_ ?_
  · simp -implicitDefEqProofs only [RUNS, qindex, Nat.reduceAdd, Nat.reduceLeDiff, Nat.reduceSub, reduceIte, Nat.reduceEqDiff, Nat.reduceLT, reduceCtorEq, Nat.reduceMul, Nat.reduceBEq, Int.reduceEq, if_true, if_false, eq_self, ne_eq, env_bT, P29_eq, Var.pv_eq, P32_eq, GEnv.pv_eq, P41_eq, Redir.pv_eq, P152_eq, Cmd.pv_eq, P42_eq, Word.pv_eq, GValue.pv_eq]
  refine AW.seq ?_
  refine AW.reg hS [(0, .full (List.map GEnv.pv [GEnv.mk 1 4 [Var.mk 2 [120] [[49], [50]], Var.mk 3 [42] [[97], [98], [99]]]]))] [] ?_ ?_
  · simp -implicitDefEqProofs only [RUNS, qindex, Nat.reduceAdd, Nat.reduceLeDiff, Nat.reduceSub, reduceIte, Nat.reduceEqDiff, Nat.reduceLT, reduceCtorEq, Nat.reduceMul, Nat.reduceBEq, Int.reduceEq, if_true, if_false, eq_self, ne_eq, env_bT, T_9, T_22, T_29, T_32, T_34, T_37, P29_eq, Var.pv_eq, P32_eq, GEnv.pv_eq, P41_eq, Redir.pv_eq, P152_eq, Cmd.pv_eq, P42_eq, Word.pv_eq, GValue.pv_eq, ownT_29, ownT_37, ownT_32, ownT_34, ownT_22]
  refine AW.ret ?_
  cases h
  show finish _ _ _ _ _ = _
  first | rfl | (simp [finish, resOf, renArgs, toPV, selObjs, sl])

set_option maxHeartbeats 4000000 in
theorem g_F37 {O : Orc} (hS : Sound env O) (hpf : O.pf = pfn) (c_L_Atoi : C_L_Atoi O) (c_L_Itoa : C_L_Itoa O) (s1 : Str) (r2 : Int) (r3 : Bool) (h : F37 s1 = some (r2, r3)) : Good env 37 [.pv (.str s1)] [] [.pv (.int .i64 r2), .pv (.bool r3)] [] := by
  have pf_49 : O.pf 49 = true := by rw [hpf]; rfl
  have pf_52 : O.pf 52 = true := by rw [hpf]; rfl
  refine Good.start (fn := Tryz.f37) (N := 28) fn_37 rfl rfl (by simp) [] _ rfl rfl ?_
  rw [F37] at h
  refine AW.seq ?_
  refine AW.reg hS [(0, .pv (.str s1))] [] ?_ ?_
  · simp -implicitDefEqProofs only [RUNS, qindex, Nat.reduceAdd, Nat.reduceLeDiff, Nat.reduceSub, reduceIte, Nat.reduceEqDiff, Nat.reduceLT, reduceCtorEq, Nat.reduceMul, Nat.reduceBEq, Int.reduceEq, if_true, if_false, eq_self, ne_eq, env_bT, P29_eq, Var.pv_eq, P32_eq, GEnv.pv_eq, P41_eq, Redir.pv_eq, P152_eq, Cmd.pv_eq, P42_eq, Word.pv_eq, GValue.pv_eq]
  refine AW.seq ?_
  replace h := Option.bind_eq_some_iff.1 h; obtain ⟨⟨n4, bad5⟩, q6, h⟩ := h
  dsimp only at h
  have f7 := c_L_Atoi s1 n4 bad5 q6
  try dsimp only at f7
  refine AW.reg hS [(0, .pv (.str s1)), (4, .pv (.int .i64 n4)), (5, .pv ((bif bad5 then PV.ifc else PV.nil)))] [] ?_ ?_
  · simp -implicitDefEqProofs only [RUNS, qindex, Nat.reduceAdd, Nat.reduceLeDiff, Nat.reduceSub, reduceIte, Nat.reduceEqDiff, Nat.reduceLT, reduceCtorEq, Nat.reduceMul, Nat.reduceBEq, Int.reduceEq, if_true, if_false, eq_self, ne_eq, env_bT, T_9, P29_eq, Var.pv_eq, P32_eq, GEnv.pv_eq, P41_eq, Redir.pv_eq, P152_eq, Cmd.pv_eq, P42_eq, Word.pv_eq, GValue.pv_eq, pf_52, f7]
  refine AW.seq ?_
  replace h := Option.bind_eq_some_iff.1 h; obtain ⟨s8, q9, h⟩ := h
  have f10 := fun hg => c_L_Itoa n4 s8 (guardO_t q9 hg)
  try dsimp only at f10
  refine AW.reg hS [(2, .pv (.int .i64 n4)), (3, .pv (.bool (((!bad5 && decide (1 ≤ n4)) && decide (n4 ≤ 256)) && decide (s8 = s1))))] [] ?_ ?_
  · clear h
    (simp -implicitDefEqProofs only [RUNS, qindex, Nat.reduceAdd, Nat.reduceLeDiff, Nat.reduceSub, reduceIte, Nat.reduceEqDiff, Nat.reduceLT, reduceCtorEq, Nat.reduceMul, Nat.reduceBEq, Int.reduceEq, if_true, if_false, eq_self, ne_eq, env_bT, T_3, T_9, T_58, P29_eq, Var.pv_eq, P32_eq, GEnv.pv_eq, P41_eq, Redir.pv_eq, P152_eq, Cmd.pv_eq, P42_eq, Word.pv_eq, GValue.pv_eq, eqT_58, qnil2_eql T_58, qnil2_neq T_58, eqT_3, pf_49, f10, eqT_9]); repeat' (split <;> rename_i hb <;> (try simp only [HBS, ge_iff_le, gt_iff_lt] at hb) <;> simp -implicitDefEqProofs only [RUNS, qindex, Nat.reduceAdd, Nat.reduceLeDiff, Nat.reduceSub, reduceIte, Nat.reduceEqDiff, Nat.reduceLT, reduceCtorEq, Nat.reduceMul, Nat.reduceBEq, Int.reduceEq, if_true, if_false, eq_self, ne_eq, env_bT, T_3, T_9, T_58, P29_eq, Var.pv_eq, P32_eq, GEnv.pv_eq, P41_eq, Redir.pv_eq, P152_eq, Cmd.pv_eq, P42_eq, Word.pv_eq, GValue.pv_eq, eqT_58, qnil2_eql T_58, qnil2_neq T_58, eqT_3, pf_49, f10, eqT_9, *, decide_true, decide_false, Decidable.not_not, not_false_eq_true, not_true_eq_false])
    all_goals (first | (simp only [BOOLS]; done) | (simp [*]; done) | ((try simp only [CLOS, beq_iff_eq, bne_iff_ne, ne_eq] at *) <;> omega) | (simp_all; done) | (simp_all <;> omega))
  refine AW.ret ?_
  cases h
  show finish _ _ _ _ _ = _
  first | rfl | (simp [finish, resOf, renArgs, toPV, selObjs, sl])

set_option maxHeartbeats 4000000 in
theorem g_F71 {O : Orc} (hS : Sound env O) (hpf : O.pf = pfn) (g1 : GEnv) (x2 : Int) (r3 : Bool) (h : F71 g1 x2 = some r3) : Good env 71 [.pv (.agg [.int .i64 g1.id_, .int .i64 g1.next_, .slice (List.map Var.pv g1.vars_)]), .ref 0 0] [.var [.pv (.int .i64 x2)]] [.pv (.bool r3)] [.var [.pv (.int .i64 x2)]] := by
  refine Good.start (fn := Tryz.f71) (N := 8) fn_71 rfl rfl (by simp) [] _ rfl rfl ?_
  rw [F71] at h
  refine AW.seq ?_
  refine AW.reg hS [(1, .ref 0 0), (2, .ref 1 0)] [.var [.pv (.int .i64 x2)], .var [.pv (.int .i64 g1.id_), .pv (.int .i64 g1.next_), .pv (.slice (List.map Var.pv g1.vars_))]] ?_ ?_
  · simp -implicitDefEqProofs only [RUNS, qindex, Nat.reduceAdd, Nat.reduceLeDiff, Nat.reduceSub, reduceIte, Nat.reduceEqDiff, Nat.reduceLT, reduceCtorEq, Nat.reduceMul, Nat.reduceBEq, Int.reduceEq, if_true, if_false, eq_self, ne_eq, env_bT, T_34, P29_eq, Var.pv_eq, P32_eq, GEnv.pv_eq, P41_eq, Redir.pv_eq, P152_eq, Cmd.pv_eq, P42_eq, Word.pv_eq, GValue.pv_eq]
  refine AW.seq ?_
  refine AW.reg hS [(3, .pv (.bool (decide (g1.id_ = x2))))] [.var [.pv (.int .i64 x2)], .var [.pv (.int .i64 g1.id_), .pv (.int .i64 g1.next_), .pv (.slice (List.map Var.pv g1.vars_))]] ?_ ?_
  · simp -implicitDefEqProofs only [RUNS, qindex, Nat.reduceAdd, Nat.reduceLeDiff, Nat.reduceSub, reduceIte, Nat.reduceEqDiff, Nat.reduceLT, reduceCtorEq, Nat.reduceMul, Nat.reduceBEq, Int.reduceEq, if_true, if_false, eq_self, ne_eq, env_bT, T_3, T_34, P29_eq, Var.pv_eq, P32_eq, GEnv.pv_eq, P41_eq, Redir.pv_eq, P152_eq, Cmd.pv_eq, P42_eq, Word.pv_eq, GValue.pv_eq, eqT_3]
  refine AW.ret ?_
  cases h
  show finish _ _ _ _ _ = _
  first | rfl | (simp [finish, resOf, renArgs, toPV, selObjs, sl])

set_option maxHeartbeats 4000000 in
theorem g_F70 {O : Orc} (hS : Sound env O) (hpf : O.pf = pfn) (c_F71 : C_F71 O) (s1 : List GEnv) (x2 : Int) (r3 : Int) (h : F70 s1 x2 = some r3) : Good env 70 [.pv (.slice (List.map GEnv.pv s1)), .fn 71 [0]] [.var [.pv (.int .i64 x2)]] [.pv (.int .i64 r3)] [.var [.pv (.int .i64 x2)]] := by
  have pf_71 : O.pf 71 = false := by rw [hpf]; rfl
  refine Good.start (fn := Tryz.f70) (N := 19) fn_70 rfl rfl (by simp) [] _ rfl rfl ?_
  rw [F70] at h
  refine AW.seq ?_
  refine AW.reg hS [(0, .pv (.slice (List.map GEnv.pv s1))), (1, .fn 71 [0])] [.var [.pv (.int .i64 x2)]] ?_ ?_
  · simp -implicitDefEqProofs only [RUNS, qindex, Nat.reduceAdd, Nat.reduceLeDiff, Nat.reduceSub, reduceIte, Nat.reduceEqDiff, Nat.reduceLT, reduceCtorEq, Nat.reduceMul, Nat.reduceBEq, Int.reduceEq, if_true, if_false, eq_self, ne_eq, env_bT, P29_eq, Var.pv_eq, P32_eq, GEnv.pv_eq, P41_eq, Redir.pv_eq, P152_eq, Cmd.pv_eq, P42_eq, Word.pv_eq, GValue.pv_eq]
  refine AW.seq ?_
  refine AW.seq ?_
  refine AW.reg hS [(0, .pv (.slice (List.map GEnv.pv s1))), (1, .fn 71 [0]), (7, .pv (.int .i64 (s1.length : Int))), (8, .pv (.int .i64 0))] [.var [.pv (.int .i64 x2)]] ?_ ?_
  · simp -implicitDefEqProofs only [RUNS, qindex, Nat.reduceAdd, Nat.reduceLeDiff, Nat.reduceSub, reduceIte, Nat.reduceEqDiff, Nat.reduceLT, reduceCtorEq, Nat.reduceMul, Nat.reduceBEq, Int.reduceEq, if_true, if_false, eq_self, ne_eq, env_bT, T_22, T_34, P29_eq, Var.pv_eq, P32_eq, GEnv.pv_eq, P41_eq, Redir.pv_eq, P152_eq, Cmd.pv_eq, P42_eq, Word.pv_eq, GValue.pv_eq]
  refine AW.block ?_
  refine AW.weak (Weak.slots (L := [(0, .pv (.slice (List.map GEnv.pv s1))), (1, .fn 71 [0]), (7, .pv (.int .i64 (s1.length : Int))), (8, .pv (.int .i64 0))]) ⟨rfl, rfl, rfl, rfl, trivial⟩) ?_
  refine AW.loopI (α := Nat × Int) (fun (_, i4) => ⟨sl [(0, .pv (.slice (List.map GEnv.pv s1))), (1, .fn 71 [0]), (7, .pv (.int .i64 (s1.length : Int))), (8, .pv (.int .i64 i4))], 19, [.var [.pv (.int .i64 x2)]]⟩) (fun x => iter (F70_b1 s1 x2) x.1 x.2 = some r3) (fun x => x.1) (BIG, 0) h ?_
  clear h
  intro ⟨n17, i4⟩ h
  replace h := iter_some h; obtain ⟨m7, rfl, h⟩ := h
  rw [F70_b1] at h
  try dsimp only at h
  show AW _ _ _ _ ⟨sl [(0, .pv (.slice (List.map GEnv.pv s1))), (1, .fn 71 [0]), (7, .pv (.int .i64 (s1.length : Int))), (8, .pv (.int .i64 i4))], 19, [.var [.pv (.int .i64 x2)]]⟩
  refine AW.seq ?_
  refine AW.reg hS [(0, .pv (.slice (List.map GEnv.pv s1))), (1, .fn 71 [0]), (7, .pv (.int .i64 (s1.length : Int))), (8, .pv (.int .i64 i4)), (9, .pv (.bool (decide (i4 < (s1.length : Int)))))] [.var [.pv (.int .i64 x2)]] ?_ ?_
  · simp -implicitDefEqProofs only [RUNS, qindex, Nat.reduceAdd, Nat.reduceLeDiff, Nat.reduceSub, reduceIte, Nat.reduceEqDiff, Nat.reduceLT, reduceCtorEq, Nat.reduceMul, Nat.reduceBEq, Int.reduceEq, if_true, if_false, eq_self, ne_eq, env_bT, T_3, P29_eq, Var.pv_eq, P32_eq, GEnv.pv_eq, P41_eq, Redir.pv_eq, P152_eq, Cmd.pv_eq, P42_eq, Word.pv_eq, GValue.pv_eq, eqT_3]
  refine AW.seq ?_
  refine AW.cond (b := decide (i4 < (s1.length : Int))) rfl (fun hb8 => ?_) (fun hb8 => ?_)
  · replace h := bif_t hb8 h
    refine AW.skip ?_
    refine AW.seq ?_
    refine AW.block ?_
    refine AW.seq ?_
    refine AW.reg hS [(0, .pv (.slice (List.map GEnv.pv s1))), (1, .fn 71 [0]), (5, .pv (.int .i64 i4)), (7, .pv (.int .i64 (s1.length : Int))), (8, .pv (.int .i64 i4))] [.var [.pv (.int .i64 x2)]] ?_ ?_
    · simp -implicitDefEqProofs only [RUNS, qindex, Nat.reduceAdd, Nat.reduceLeDiff, Nat.reduceSub, reduceIte, Nat.reduceEqDiff, Nat.reduceLT, reduceCtorEq, Nat.reduceMul, Nat.reduceBEq, Int.reduceEq, if_true, if_false, eq_self, ne_eq, env_bT, P29_eq, Var.pv_eq, P32_eq, GEnv.pv_eq, P41_eq, Redir.pv_eq, P152_eq, Cmd.pv_eq, P42_eq, Word.pv_eq, GValue.pv_eq]
    refine AW.seq ?_
    replace h := Option.bind_eq_some_iff.1 h; obtain ⟨u9, q10, h⟩ := h
    have f11 := lidx_f q10
    replace h := Option.bind_eq_some_iff.1 h; obtain ⟨r12, q13, h⟩ := h
    have f14 := c_F71 u9 x2 r12 q13
    try dsimp only at f14
    have e15 : ecall O [.var [.pv (.int .i64 x2)]] 71 [.pv (.agg [.int .i64 u9.id_, .int .i64 u9.next_, .slice (List.map Var.pv u9.vars_)]), .ref 0 0] = some (retAV [.pv (.bool r12)], [.var [.pv (.int .i64 x2)]]) := ecall_eq rfl rfl rfl f14 rfl rfl rfl
    refine AW.reg hS [(0, .pv (.slice (List.map GEnv.pv s1))), (1, .fn 71 [0]), (5, .pv (.int .i64 i4)), (7, .pv (.int .i64 (s1.length : Int))), (8, .pv (.int .i64 i4)), (16, .pv (.bool r12))] [.var [.pv (.int .i64 x2)]] ?_ ?_
    · simp -implicitDefEqProofs only [RUNS, qindex, Nat.reduceAdd, Nat.reduceLeDiff, Nat.reduceSub, reduceIte, Nat.reduceEqDiff, Nat.reduceLT, reduceCtorEq, Nat.reduceMul, Nat.reduceBEq, Int.reduceEq, if_true, if_false, eq_self, ne_eq, env_bT, T_22, T_34, P29_eq, Var.pv_eq, P32_eq, GEnv.pv_eq, P41_eq, Redir.pv_eq, P152_eq, Cmd.pv_eq, P42_eq, Word.pv_eq, GValue.pv_eq, f11.1, f11.2.1, pf_71, e15]
    refine AW.cond (b := r12) rfl (fun hb16 => ?_) (fun hb16 => ?_)
    · replace h := bif_t hb16 h
      refine AW.seq ?_
      refine AW.reg hS [(4, .pv (.int .i64 i4))] [.var [.pv (.int .i64 x2)]] ?_ ?_
      · simp -implicitDefEqProofs only [RUNS, qindex, Nat.reduceAdd, Nat.reduceLeDiff, Nat.reduceSub, reduceIte, Nat.reduceEqDiff, Nat.reduceLT, reduceCtorEq, Nat.reduceMul, Nat.reduceBEq, Int.reduceEq, if_true, if_false, eq_self, ne_eq, env_bT, P29_eq, Var.pv_eq, P32_eq, GEnv.pv_eq, P41_eq, Redir.pv_eq, P152_eq, Cmd.pv_eq, P42_eq, Word.pv_eq, GValue.pv_eq]
      refine AW.ret ?_
      cases h
      show finish _ _ _ _ _ = _
      first | rfl | (simp [finish, resOf, renArgs, toPV, selObjs, sl])
    · replace h := bif_f hb16 h
      refine AW.skip ?_
      refine AW.reg hS [(0, .pv (.slice (List.map GEnv.pv s1))), (1, .fn 71 [0]), (7, .pv (.int .i64 (s1.length : Int))), (8, .pv (.int .i64 (IntKind.wrap .i64 (i4 + 1))))] [.var [.pv (.int .i64 x2)]] ?_ ?_
      · simp -implicitDefEqProofs only [RUNS, qindex, Nat.reduceAdd, Nat.reduceLeDiff, Nat.reduceSub, reduceIte, Nat.reduceEqDiff, Nat.reduceLT, reduceCtorEq, Nat.reduceMul, Nat.reduceBEq, Int.reduceEq, if_true, if_false, eq_self, ne_eq, env_bT, T_3, P29_eq, Var.pv_eq, P32_eq, GEnv.pv_eq, P41_eq, Redir.pv_eq, P152_eq, Cmd.pv_eq, P42_eq, Word.pv_eq, GValue.pv_eq, eqT_3]
      exact ⟨(m7, IntKind.wrap .i64 (i4 + 1)), h, (Weak.norm (m := 1) (Nat.le_of_ble_eq_true rfl) ⟨rfl, rfl, rfl, rfl, trivial⟩ rfl rfl rfl), Nat.lt_succ_self _⟩
  · replace h := bif_f hb8 h
    refine AW.exit ?_
    refine AW.seq ?_
    refine AW.reg hS [(4, .pv (.int .i64 (-1)))] [.var [.pv (.int .i64 x2)]] ?_ ?_
    · simp -implicitDefEqProofs only [RUNS, qindex, Nat.reduceAdd, Nat.reduceLeDiff, Nat.reduceSub, reduceIte, Nat.reduceEqDiff, Nat.reduceLT, reduceCtorEq, Nat.reduceMul, Nat.reduceBEq, Int.reduceEq, if_true, if_false, eq_self, ne_eq, env_bT, P29_eq, Var.pv_eq, P32_eq, GEnv.pv_eq, P41_eq, Redir.pv_eq, P152_eq, Cmd.pv_eq, P42_eq, Word.pv_eq, GValue.pv_eq]
    refine AW.ret ?_
    cases h
    show finish _ _ _ _ _ = _
    first | rfl | (simp [finish, resOf, renArgs, toPV, selObjs, sl])

set_option maxHeartbeats 4000000 in
theorem g_F56 {O : Orc} (hS : Sound env O) (hpf : O.pf = pfn) (c_F70 : C_F70 O) (l1 : List GEnv) (group2 : Int) (r3 : Int) (h : F56 l1 group2 = some r3) : Good env 56 [.pv (.slice (List.map GEnv.pv l1)), .pv (.int .i64 group2)] [] [.pv (.int .i64 r3)] [] := by
  have pf_70 : O.pf 70 = false := by rw [hpf]; rfl
  refine Good.start (fn := Tryz.f56) (N := 8) fn_56 rfl rfl (by simp) [] _ rfl rfl ?_
  rw [F56] at h
  refine AW.seq ?_
  refine AW.reg hS [(0, .pv (.slice (List.map GEnv.pv l1))), (3, .ref 0 0)] [.var [.pv (.int .i64 group2)]] ?_ ?_
  · simp -implicitDefEqProofs only [RUNS, qindex, Nat.reduceAdd, Nat.reduceLeDiff, Nat.reduceSub, reduceIte, Nat.reduceEqDiff, Nat.reduceLT, reduceCtorEq, Nat.reduceMul, Nat.reduceBEq, Int.reduceEq, if_true, if_false, eq_self, ne_eq, env_bT, T_3, P29_eq, Var.pv_eq, P32_eq, GEnv.pv_eq, P41_eq, Redir.pv_eq, P152_eq, Cmd.pv_eq, P42_eq, Word.pv_eq, GValue.pv_eq]
  refine AW.seq ?_
  replace h := Option.bind_eq_some_iff.1 h; obtain ⟨r4, q5, h⟩ := h
  have f6 := c_F70 l1 group2 r4 q5
  try dsimp only at f6
  have e7 : ecall O [.var [.pv (.int .i64 group2)]] 70 [.pv (.slice (List.map GEnv.pv l1)), .fn 71 [0]] = some (retAV [.pv (.int .i64 r4)], [.var [.pv (.int .i64 group2)]]) := ecall_eq rfl rfl rfl f6 rfl rfl rfl
  refine AW.reg hS [(4, .pv (.int .i64 r4))] [.var [.pv (.int .i64 group2)]] ?_ ?_
  · simp -implicitDefEqProofs only [RUNS, qindex, Nat.reduceAdd, Nat.reduceLeDiff, Nat.reduceSub, reduceIte, Nat.reduceEqDiff, Nat.reduceLT, reduceCtorEq, Nat.reduceMul, Nat.reduceBEq, Int.reduceEq, if_true, if_false, eq_self, ne_eq, env_bT, T_22, T_34, P29_eq, Var.pv_eq, P32_eq, GEnv.pv_eq, P41_eq, Redir.pv_eq, P152_eq, Cmd.pv_eq, P42_eq, Word.pv_eq, GValue.pv_eq, pf_70, e7]
  refine AW.ret ?_
  cases h
  show finish _ _ _ _ _ = _
  first | rfl | (simp [finish, resOf, renArgs, toPV, selObjs, sl])

set_option maxHeartbeats 4000000 in
theorem g_F73 {O : Orc} (hS : Sound env O) (hpf : O.pf = pfn) (v1 : Var) (x2 : Str) (r3 : Bool) (h : F73 v1 x2 = some r3) : Good env 73 [.pv (.agg [.int .i64 v1.id_, .str v1.name_, .slice (List.map PV.str v1.values_)]), .ref 0 0] [.var [.pv (.str x2)]] [.pv (.bool r3)] [.var [.pv (.str x2)]] := by
  refine Good.start (fn := Tryz.f73) (N := 8) fn_73 rfl rfl (by simp) [] _ rfl rfl ?_
  rw [F73] at h
  refine AW.seq ?_
  refine AW.reg hS [(1, .ref 0 0), (2, .ref 1 0)] [.var [.pv (.str x2)], .var [.pv (.int .i64 v1.id_), .pv (.str v1.name_), .pv (.slice (List.map PV.str v1.values_))]] ?_ ?_
  · simp -implicitDefEqProofs only [RUNS, qindex, Nat.reduceAdd, Nat.reduceLeDiff, Nat.reduceSub, reduceIte, Nat.reduceEqDiff, Nat.reduceLT, reduceCtorEq, Nat.reduceMul, Nat.reduceBEq, Int.reduceEq, if_true, if_false, eq_self, ne_eq, env_bT, T_37, P29_eq, Var.pv_eq, P32_eq, GEnv.pv_eq, P41_eq, Redir.pv_eq, P152_eq, Cmd.pv_eq, P42_eq, Word.pv_eq, GValue.pv_eq]
  refine AW.seq ?_
  refine AW.reg hS [(3, .pv (.bool (decide (v1.name_ = x2))))] [.var [.pv (.str x2)], .var [.pv (.int .i64 v1.id_), .pv (.str v1.name_), .pv (.slice (List.map PV.str v1.values_))]] ?_ ?_
  · simp -implicitDefEqProofs only [RUNS, qindex, Nat.reduceAdd, Nat.reduceLeDiff, Nat.reduceSub, reduceIte, Nat.reduceEqDiff, Nat.reduceLT, reduceCtorEq, Nat.reduceMul, Nat.reduceBEq, Int.reduceEq, if_true, if_false, eq_self, ne_eq, env_bT, T_9, T_37, P29_eq, Var.pv_eq, P32_eq, GEnv.pv_eq, P41_eq, Redir.pv_eq, P152_eq, Cmd.pv_eq, P42_eq, Word.pv_eq, GValue.pv_eq, eqT_9]
  refine AW.ret ?_
  cases h
  show finish _ _ _ _ _ = _
  first | rfl | (simp [finish, resOf, renArgs, toPV, selObjs, sl])

set_option maxHeartbeats 4000000 in
theorem g_F72 {O : Orc} (hS : Sound env O) (hpf : O.pf = pfn) (c_F73 : C_F73 O) (s1 : List Var) (x2 : Str) (r3 : Int) (h : F72 s1 x2 = some r3) : Good env 72 [.pv (.slice (List.map Var.pv s1)), .fn 73 [0]] [.var [.pv (.str x2)]] [.pv (.int .i64 r3)] [.var [.pv (.str x2)]] := by
  have pf_73 : O.pf 73 = false := by rw [hpf]; rfl
  refine Good.start (fn := Tryz.f72) (N := 19) fn_72 rfl rfl (by simp) [] _ rfl rfl ?_
  rw [F72] at h
  refine AW.seq ?_
  refine AW.reg hS [(0, .pv (.slice (List.map Var.pv s1))), (1, .fn 73 [0])] [.var [.pv (.str x2)]] ?_ ?_
  · simp -implicitDefEqProofs only [RUNS, qindex, Nat.reduceAdd, Nat.reduceLeDiff, Nat.reduceSub, reduceIte, Nat.reduceEqDiff, Nat.reduceLT, reduceCtorEq, Nat.reduceMul, Nat.reduceBEq, Int.reduceEq, if_true, if_false, eq_self, ne_eq, env_bT, P29_eq, Var.pv_eq, P32_eq, GEnv.pv_eq, P41_eq, Redir.pv_eq, P152_eq, Cmd.pv_eq, P42_eq, Word.pv_eq, GValue.pv_eq]
  refine AW.seq ?_
  refine AW.seq ?_
  refine AW.reg hS [(0, .pv (.slice (List.map Var.pv s1))), (1, .fn 73 [0]), (7, .pv (.int .i64 (s1.length : Int))), (8, .pv (.int .i64 0))] [.var [.pv (.str x2)]] ?_ ?_
  · simp -implicitDefEqProofs only [RUNS, qindex, Nat.reduceAdd, Nat.reduceLeDiff, Nat.reduceSub, reduceIte, Nat.reduceEqDiff, Nat.reduceLT, reduceCtorEq, Nat.reduceMul, Nat.reduceBEq, Int.reduceEq, if_true, if_false, eq_self, ne_eq, env_bT, T_32, T_37, P29_eq, Var.pv_eq, P32_eq, GEnv.pv_eq, P41_eq, Redir.pv_eq, P152_eq, Cmd.pv_eq, P42_eq, Word.pv_eq, GValue.pv_eq]
  refine AW.block ?_
  refine AW.weak (Weak.slots (L := [(0, .pv (.slice (List.map Var.pv s1))), (1, .fn 73 [0]), (7, .pv (.int .i64 (s1.length : Int))), (8, .pv (.int .i64 0))]) ⟨rfl, rfl, rfl, rfl, trivial⟩) ?_
  refine AW.loopI (α := Nat × Int) (fun (_, i4) => ⟨sl [(0, .pv (.slice (List.map Var.pv s1))), (1, .fn 73 [0]), (7, .pv (.int .i64 (s1.length : Int))), (8, .pv (.int .i64 i4))], 19, [.var [.pv (.str x2)]]⟩) (fun x => iter (F72_b1 s1 x2) x.1 x.2 = some r3) (fun x => x.1) (BIG, 0) h ?_
  clear h
  intro ⟨n17, i4⟩ h
  replace h := iter_some h; obtain ⟨m7, rfl, h⟩ := h
  rw [F72_b1] at h
  try dsimp only at h
  show AW _ _ _ _ ⟨sl [(0, .pv (.slice (List.map Var.pv s1))), (1, .fn 73 [0]), (7, .pv (.int .i64 (s1.length : Int))), (8, .pv (.int .i64 i4))], 19, [.var [.pv (.str x2)]]⟩
  refine AW.seq ?_
  refine AW.reg hS [(0, .pv (.slice (List.map Var.pv s1))), (1, .fn 73 [0]), (7, .pv (.int .i64 (s1.length : Int))), (8, .pv (.int .i64 i4)), (9, .pv (.bool (decide (i4 < (s1.length : Int)))))] [.var [.pv (.str x2)]] ?_ ?_
  · simp -implicitDefEqProofs only [RUNS, qindex, Nat.reduceAdd, Nat.reduceLeDiff, Nat.reduceSub, reduceIte, Nat.reduceEqDiff, Nat.reduceLT, reduceCtorEq, Nat.reduceMul, Nat.reduceBEq, Int.reduceEq, if_true, if_false, eq_self, ne_eq, env_bT, T_3, P29_eq, Var.pv_eq, P32_eq, GEnv.pv_eq, P41_eq, Redir.pv_eq, P152_eq, Cmd.pv_eq, P42_eq, Word.pv_eq, GValue.pv_eq, eqT_3]
  refine AW.seq ?_
  refine AW.cond (b := decide (i4 < (s1.length : Int))) rfl (fun hb8 => ?_) (fun hb8 => ?_)
  · replace h := bif_t hb8 h
    refine AW.skip ?_
    refine AW.seq ?_
    refine AW.block ?_
    refine AW.seq ?_
    refine AW.reg hS [(0, .pv (.slice (List.map Var.pv s1))), (1, .fn 73 [0]), (5, .pv (.int .i64 i4)), (7, .pv (.int .i64 (s1.length : Int))), (8, .pv (.int .i64 i4))] [.var [.pv (.str x2)]] ?_ ?_
    · simp -implicitDefEqProofs only [RUNS, qindex, Nat.reduceAdd, Nat.reduceLeDiff, Nat.reduceSub, reduceIte, Nat.reduceEqDiff, Nat.reduceLT, reduceCtorEq, Nat.reduceMul, Nat.reduceBEq, Int.reduceEq, if_true, if_false, eq_self, ne_eq, env_bT, P29_eq, Var.pv_eq, P32_eq, GEnv.pv_eq, P41_eq, Redir.pv_eq, P152_eq, Cmd.pv_eq, P42_eq, Word.pv_eq, GValue.pv_eq]
    refine AW.seq ?_
    replace h := Option.bind_eq_some_iff.1 h; obtain ⟨u9, q10, h⟩ := h
    have f11 := lidx_f q10
    replace h := Option.bind_eq_some_iff.1 h; obtain ⟨r12, q13, h⟩ := h
    have f14 := c_F73 u9 x2 r12 q13
    try dsimp only at f14
    have e15 : ecall O [.var [.pv (.str x2)]] 73 [.pv (.agg [.int .i64 u9.id_, .str u9.name_, .slice (List.map PV.str u9.values_)]), .ref 0 0] = some (retAV [.pv (.bool r12)], [.var [.pv (.str x2)]]) := ecall_eq rfl rfl rfl f14 rfl rfl rfl
    refine AW.reg hS [(0, .pv (.slice (List.map Var.pv s1))), (1, .fn 73 [0]), (5, .pv (.int .i64 i4)), (7, .pv (.int .i64 (s1.length : Int))), (8, .pv (.int .i64 i4)), (16, .pv (.bool r12))] [.var [.pv (.str x2)]] ?_ ?_
    · simp -implicitDefEqProofs only [RUNS, qindex, Nat.reduceAdd, Nat.reduceLeDiff, Nat.reduceSub, reduceIte, Nat.reduceEqDiff, Nat.reduceLT, reduceCtorEq, Nat.reduceMul, Nat.reduceBEq, Int.reduceEq, if_true, if_false, eq_self, ne_eq, env_bT, T_32, T_37, P29_eq, Var.pv_eq, P32_eq, GEnv.pv_eq, P41_eq, Redir.pv_eq, P152_eq, Cmd.pv_eq, P42_eq, Word.pv_eq, GValue.pv_eq, f11.1, f11.2.1, pf_73, e15]
    refine AW.cond (b := r12) rfl (fun hb16 => ?_) (fun hb16 => ?_)
    · replace h := bif_t hb16 h
      refine AW.seq ?_
      refine AW.reg hS [(4, .pv (.int .i64 i4))] [.var [.pv (.str x2)]] ?_ ?_
      · simp -implicitDefEqProofs only [RUNS, qindex, Nat.reduceAdd, Nat.reduceLeDiff, Nat.reduceSub, reduceIte, Nat.reduceEqDiff, Nat.reduceLT, reduceCtorEq, Nat.reduceMul, Nat.reduceBEq, Int.reduceEq, if_true, if_false, eq_self, ne_eq, env_bT, P29_eq, Var.pv_eq, P32_eq, GEnv.pv_eq, P41_eq, Redir.pv_eq, P152_eq, Cmd.pv_eq, P42_eq, Word.pv_eq, GValue.pv_eq]
      refine AW.ret ?_
      cases h
      show finish _ _ _ _ _ = _
      first | rfl | (simp [finish, resOf, renArgs, toPV, selObjs, sl])
    · replace h := bif_f hb16 h
      refine AW.skip ?_
      refine AW.reg hS [(0, .pv (.slice (List.map Var.pv s1))), (1, .fn 73 [0]), (7, .pv (.int .i64 (s1.length : Int))), (8, .pv (.int .i64 (IntKind.wrap .i64 (i4 + 1))))] [.var [.pv (.str x2)]] ?_ ?_
      · simp -implicitDefEqProofs only [RUNS, qindex, Nat.reduceAdd, Nat.reduceLeDiff, Nat.reduceSub, reduceIte, Nat.reduceEqDiff, Nat.reduceLT, reduceCtorEq, Nat.reduceMul, Nat.reduceBEq, Int.reduceEq, if_true, if_false, eq_self, ne_eq, env_bT, T_3, P29_eq, Var.pv_eq, P32_eq, GEnv.pv_eq, P41_eq, Redir.pv_eq, P152_eq, Cmd.pv_eq, P42_eq, Word.pv_eq, GValue.pv_eq, eqT_3]
      exact ⟨(m7, IntKind.wrap .i64 (i4 + 1)), h, (Weak.norm (m := 1) (Nat.le_of_ble_eq_true rfl) ⟨rfl, rfl, rfl, rfl, trivial⟩ rfl rfl rfl), Nat.lt_succ_self _⟩
  · replace h := bif_f hb8 h
    refine AW.exit ?_
    refine AW.seq ?_
    refine AW.reg hS [(4, .pv (.int .i64 (-1)))] [.var [.pv (.str x2)]] ?_ ?_
    · simp -implicitDefEqProofs only [RUNS, qindex, Nat.reduceAdd, Nat.reduceLeDiff, Nat.reduceSub, reduceIte, Nat.reduceEqDiff, Nat.reduceLT, reduceCtorEq, Nat.reduceMul, Nat.reduceBEq, Int.reduceEq, if_true, if_false, eq_self, ne_eq, env_bT, P29_eq, Var.pv_eq, P32_eq, GEnv.pv_eq, P41_eq, Redir.pv_eq, P152_eq, Cmd.pv_eq, P42_eq, Word.pv_eq, GValue.pv_eq]
    refine AW.ret ?_
    cases h
    show finish _ _ _ _ _ = _
    first | rfl | (simp [finish, resOf, renArgs, toPV, selObjs, sl])

set_option maxHeartbeats 4000000 in
theorem g_F57 {O : Orc} (hS : Sound env O) (hpf : O.pf = pfn) (c_F72 : C_F72 O) (g1 : GEnv) (name2 : Str) (r3 : Int) (h : F57 g1 name2 = some r3) : Good env 57 [.pv (.agg [.int .i64 g1.id_, .int .i64 g1.next_, .slice (List.map Var.pv g1.vars_)]), .pv (.str name2)] [] [.pv (.int .i64 r3)] [] := by
  have pf_72 : O.pf 72 = false := by rw [hpf]; rfl
  refine Good.start (fn := Tryz.f57) (N := 9) fn_57 rfl rfl (by simp) [] _ rfl rfl ?_
  rw [F57] at h
  refine AW.seq ?_
  refine AW.reg hS [(2, .ref 0 0), (3, .ref 1 0)] [.var [.pv (.int .i64 g1.id_), .pv (.int .i64 g1.next_), .pv (.slice (List.map Var.pv g1.vars_))], .var [.pv (.str name2)]] ?_ ?_
  · simp -implicitDefEqProofs only [RUNS, qindex, Nat.reduceAdd, Nat.reduceLeDiff, Nat.reduceSub, reduceIte, Nat.reduceEqDiff, Nat.reduceLT, reduceCtorEq, Nat.reduceMul, Nat.reduceBEq, Int.reduceEq, if_true, if_false, eq_self, ne_eq, env_bT, T_9, T_34, P29_eq, Var.pv_eq, P32_eq, GEnv.pv_eq, P41_eq, Redir.pv_eq, P152_eq, Cmd.pv_eq, P42_eq, Word.pv_eq, GValue.pv_eq]
  refine AW.seq ?_
  replace h := Option.bind_eq_some_iff.1 h; obtain ⟨r4, q5, h⟩ := h
  have f6 := c_F72 g1.vars_ name2 r4 q5
  try dsimp only at f6
  have e7 : ecall O [.var [.pv (.int .i64 g1.id_), .pv (.int .i64 g1.next_), .pv (.slice (List.map Var.pv g1.vars_))], .var [.pv (.str name2)]] 72 [.pv (.slice (List.map Var.pv g1.vars_)), .fn 73 [1]] = some (retAV [.pv (.int .i64 r4)], [.var [.pv (.int .i64 g1.id_), .pv (.int .i64 g1.next_), .pv (.slice (List.map Var.pv g1.vars_))], .var [.pv (.str name2)]]) := ecall_eq rfl rfl rfl f6 rfl rfl rfl
  refine AW.reg hS [(4, .pv (.int .i64 r4))] [.var [.pv (.int .i64 g1.id_), .pv (.int .i64 g1.next_), .pv (.slice (List.map Var.pv g1.vars_))], .var [.pv (.str name2)]] ?_ ?_
  · simp -implicitDefEqProofs only [RUNS, qindex, Nat.reduceAdd, Nat.reduceLeDiff, Nat.reduceSub, reduceIte, Nat.reduceEqDiff, Nat.reduceLT, reduceCtorEq, Nat.reduceMul, Nat.reduceBEq, Int.reduceEq, if_true, if_false, eq_self, ne_eq, env_bT, T_32, T_34, T_37, P29_eq, Var.pv_eq, P32_eq, GEnv.pv_eq, P41_eq, Redir.pv_eq, P152_eq, Cmd.pv_eq, P42_eq, Word.pv_eq, GValue.pv_eq, pf_72, e7]
  refine AW.ret ?_
  cases h
  show finish _ _ _ _ _ = _
  first | rfl | (simp [finish, resOf, renArgs, toPV, selObjs, sl])

set_option maxHeartbeats 4000000 in
theorem g_F42 {O : Orc} (hS : Sound env O) (hpf : O.pf = pfn) (c_F56 : C_F56 O) (c_F57 : C_F57 O) (c_L_Clone : C_L_Clone O) (l1 : List GEnv) (group2 : Int) (name3 : Str) (r4 : List Str) (r5 : Bool) (h : F42 l1 group2 name3 = some (r4, r5)) : Good env 42 [.pv (.slice (List.map GEnv.pv l1)), .pv (.int .i64 group2), .pv (.str name3)] [] [.pv (.slice (List.map PV.str r4)), .pv (.bool r5)] [] := by
  have pf_56 : O.pf 56 = true := by rw [hpf]; rfl
  have pf_57 : O.pf 57 = true := by rw [hpf]; rfl
  have pf_58 : O.pf 58 = true := by rw [hpf]; rfl
  refine Good.start (fn := Tryz.f42) (N := 33) fn_42 rfl rfl (by simp) [] _ rfl rfl ?_
  rw [F42] at h
  refine AW.seq ?_
  refine AW.reg hS [(0, .pv (.slice (List.map GEnv.pv l1))), (1, .pv (.int .i64 group2)), (2, .pv (.str name3))] [] ?_ ?_
  · simp -implicitDefEqProofs only [RUNS, qindex, Nat.reduceAdd, Nat.reduceLeDiff, Nat.reduceSub, reduceIte, Nat.reduceEqDiff, Nat.reduceLT, reduceCtorEq, Nat.reduceMul, Nat.reduceBEq, Int.reduceEq, if_true, if_false, eq_self, ne_eq, env_bT, P29_eq, Var.pv_eq, P32_eq, GEnv.pv_eq, P41_eq, Redir.pv_eq, P152_eq, Cmd.pv_eq, P42_eq, Word.pv_eq, GValue.pv_eq]
  refine AW.seq ?_
  replace h := Option.bind_eq_some_iff.1 h; obtain ⟨r6, q7, h⟩ := h
  have f8 := c_F56 l1 group2 r6 q7
  try dsimp only at f8
  refine AW.reg hS [(0, .pv (.slice (List.map GEnv.pv l1))), (2, .pv (.str name3)), (8, .pv (.int .i64 r6))] [] ?_ ?_
  · simp -implicitDefEqProofs only [RUNS, qindex, Nat.reduceAdd, Nat.reduceLeDiff, Nat.reduceSub, reduceIte, Nat.reduceEqDiff, Nat.reduceLT, reduceCtorEq, Nat.reduceMul, Nat.reduceBEq, Int.reduceEq, if_true, if_false, eq_self, ne_eq, env_bT, T_3, T_22, T_34, P29_eq, Var.pv_eq, P32_eq, GEnv.pv_eq, P41_eq, Redir.pv_eq, P152_eq, Cmd.pv_eq, P42_eq, Word.pv_eq, GValue.pv_eq, pf_56, f8]
  refine AW.seq ?_
  refine AW.seq ?_
  refine AW.reg hS [(0, .pv (.slice (List.map GEnv.pv l1))), (2, .pv (.str name3)), (8, .pv (.int .i64 r6)), (14, .pv (.bool (decide (r6 < 0))))] [] ?_ ?_
  · simp -implicitDefEqProofs only [RUNS, qindex, Nat.reduceAdd, Nat.reduceLeDiff, Nat.reduceSub, reduceIte, Nat.reduceEqDiff, Nat.reduceLT, reduceCtorEq, Nat.reduceMul, Nat.reduceBEq, Int.reduceEq, if_true, if_false, eq_self, ne_eq, env_bT, T_3, P29_eq, Var.pv_eq, P32_eq, GEnv.pv_eq, P41_eq, Redir.pv_eq, P152_eq, Cmd.pv_eq, P42_eq, Word.pv_eq, GValue.pv_eq, eqT_3]
  refine AW.cond (b := decide (r6 < 0)) rfl (fun hb9 => ?_) (fun hb9 => ?_)
  · replace h := bif_t hb9 h
    refine AW.seq ?_
    refine AW.reg hS [(6, .nils), (7, .pv (.bool false))] [] ?_ ?_
    · simp -implicitDefEqProofs only [RUNS, qindex, Nat.reduceAdd, Nat.reduceLeDiff, Nat.reduceSub, reduceIte, Nat.reduceEqDiff, Nat.reduceLT, reduceCtorEq, Nat.reduceMul, Nat.reduceBEq, Int.reduceEq, if_true, if_false, eq_self, ne_eq, env_bT, P29_eq, Var.pv_eq, P32_eq, GEnv.pv_eq, P41_eq, Redir.pv_eq, P152_eq, Cmd.pv_eq, P42_eq, Word.pv_eq, GValue.pv_eq]
    refine AW.ret ?_
    cases h
    show finish _ _ _ _ _ = _
    first | rfl | (simp [finish, resOf, renArgs, toPV, selObjs, sl])
  · replace h := bif_f hb9 h
    refine AW.skip ?_
    refine AW.seq ?_
    replace h := Option.bind_eq_some_iff.1 h; obtain ⟨u10, q11, h⟩ := h
    have f12 := lidx_f q11
    replace h := Option.bind_eq_some_iff.1 h; obtain ⟨r13, q14, h⟩ := h
    have f15 := c_F57 u10 name3 r13 q14
    try dsimp only at f15
    refine AW.reg hS [(0, .pv (.slice (List.map GEnv.pv l1))), (8, .pv (.int .i64 r6)), (9, .pv (.int .i64 r13))] [] ?_ ?_
    · simp -implicitDefEqProofs only [RUNS, qindex, Nat.reduceAdd, Nat.reduceLeDiff, Nat.reduceSub, reduceIte, Nat.reduceEqDiff, Nat.reduceLT, reduceCtorEq, Nat.reduceMul, Nat.reduceBEq, Int.reduceEq, if_true, if_false, eq_self, ne_eq, env_bT, T_9, T_22, T_34, P29_eq, Var.pv_eq, P32_eq, GEnv.pv_eq, P41_eq, Redir.pv_eq, P152_eq, Cmd.pv_eq, P42_eq, Word.pv_eq, GValue.pv_eq, f12.1, f12.2.1, pf_57, f15]
    refine AW.seq ?_
    refine AW.seq ?_
    refine AW.reg hS [(0, .pv (.slice (List.map GEnv.pv l1))), (8, .pv (.int .i64 r6)), (9, .pv (.int .i64 r13)), (22, .pv (.bool (decide (r13 < 0))))] [] ?_ ?_
    · simp -implicitDefEqProofs only [RUNS, qindex, Nat.reduceAdd, Nat.reduceLeDiff, Nat.reduceSub, reduceIte, Nat.reduceEqDiff, Nat.reduceLT, reduceCtorEq, Nat.reduceMul, Nat.reduceBEq, Int.reduceEq, if_true, if_false, eq_self, ne_eq, env_bT, T_3, P29_eq, Var.pv_eq, P32_eq, GEnv.pv_eq, P41_eq, Redir.pv_eq, P152_eq, Cmd.pv_eq, P42_eq, Word.pv_eq, GValue.pv_eq, eqT_3]
    refine AW.cond (b := decide (r13 < 0)) rfl (fun hb16 => ?_) (fun hb16 => ?_)
    · replace h := bif_t hb16 h
      refine AW.seq ?_
      refine AW.reg hS [(6, .nils), (7, .pv (.bool false))] [] ?_ ?_
      · simp -implicitDefEqProofs only [RUNS, qindex, Nat.reduceAdd, Nat.reduceLeDiff, Nat.reduceSub, reduceIte, Nat.reduceEqDiff, Nat.reduceLT, reduceCtorEq, Nat.reduceMul, Nat.reduceBEq, Int.reduceEq, if_true, if_false, eq_self, ne_eq, env_bT, P29_eq, Var.pv_eq, P32_eq, GEnv.pv_eq, P41_eq, Redir.pv_eq, P152_eq, Cmd.pv_eq, P42_eq, Word.pv_eq, GValue.pv_eq]
      refine AW.ret ?_
      cases h
      show finish _ _ _ _ _ = _
      first | rfl | (simp [finish, resOf, renArgs, toPV, selObjs, sl])
    · replace h := bif_f hb16 h
      refine AW.skip ?_
      refine AW.seq ?_
      replace h := Option.bind_eq_some_iff.1 h; obtain ⟨u17, q18, h⟩ := h
      have f19 := lidx_f q18
      replace h := Option.bind_eq_some_iff.1 h; obtain ⟨l20, q21, h⟩ := h
      have f22 := c_L_Clone u17.values_ l20 q21
      try dsimp only at f22
      refine AW.reg hS [(6, .pv (.slice (List.map PV.str l20))), (7, .pv (.bool true))] [] ?_ ?_
      · simp -implicitDefEqProofs only [RUNS, qindex, Nat.reduceAdd, Nat.reduceLeDiff, Nat.reduceSub, reduceIte, Nat.reduceEqDiff, Nat.reduceLT, reduceCtorEq, Nat.reduceMul, Nat.reduceBEq, Int.reduceEq, if_true, if_false, eq_self, ne_eq, env_bT, T_9, T_22, T_29, T_32, T_34, T_37, P29_eq, Var.pv_eq, P32_eq, GEnv.pv_eq, P41_eq, Redir.pv_eq, P152_eq, Cmd.pv_eq, P42_eq, Word.pv_eq, GValue.pv_eq, f12.1, f12.2.1, f19.1, f19.2.1, pf_58, f22]
      refine AW.ret ?_
      cases h
      show finish _ _ _ _ _ = _
      first | rfl | (simp [finish, resOf, renArgs, toPV, selObjs, sl])

set_option maxHeartbeats 4000000 in
theorem g_F26 {O : Orc} (hS : Sound env O) (hpf : O.pf = pfn) (c_F37 : C_F37 O) (c_F42 : C_F42 O) (l1 : List GEnv) (group2 : Int) (name3 : Str) (r4 : List Str) (h : F26 l1 group2 name3 = some r4) : Good env 26 [.pv (.slice (List.map GEnv.pv l1)), .pv (.int .i64 group2), .pv (.str name3)] [] [.pv (.slice (List.map PV.str r4))] [] := by
  have pf_37 : O.pf 37 = true := by rw [hpf]; rfl
  have pf_42 : O.pf 42 = true := by rw [hpf]; rfl
  refine Good.start (fn := Tryz.f26) (N := 42) fn_26 rfl rfl (by simp) [] _ rfl rfl ?_
  rw [F26] at h
  refine AW.seq ?_
  refine AW.reg hS [(0, .pv (.slice (List.map GEnv.pv l1))), (1, .pv (.int .i64 group2)), (2, .pv (.str name3))] [] ?_ ?_
  · simp -implicitDefEqProofs only [RUNS, qindex, Nat.reduceAdd, Nat.reduceLeDiff, Nat.reduceSub, reduceIte, Nat.reduceEqDiff, Nat.reduceLT, reduceCtorEq, Nat.reduceMul, Nat.reduceBEq, Int.reduceEq, if_true, if_false, eq_self, ne_eq, env_bT, P29_eq, Var.pv_eq, P32_eq, GEnv.pv_eq, P41_eq, Redir.pv_eq, P152_eq, Cmd.pv_eq, P42_eq, Word.pv_eq, GValue.pv_eq]
  refine AW.seq ?_
  refine AW.seq ?_
  replace h := Option.bind_eq_some_iff.1 h; obtain ⟨⟨r5, r6⟩, q7, h⟩ := h
  dsimp only at h
  have f8 := c_F37 name3 r5 r6 q7
  try dsimp only at f8
  refine AW.reg hS [(0, .pv (.slice (List.map GEnv.pv l1))), (1, .pv (.int .i64 group2)), (2, .pv (.str name3)), (7, .pv (.int .i64 r5)), (8, .pv (.bool r6))] [] ?_ ?_
  · simp -implicitDefEqProofs only [RUNS, qindex, Nat.reduceAdd, Nat.reduceLeDiff, Nat.reduceSub, reduceIte, Nat.reduceEqDiff, Nat.reduceLT, reduceCtorEq, Nat.reduceMul, Nat.reduceBEq, Int.reduceEq, if_true, if_false, eq_self, ne_eq, env_bT, T_9, P29_eq, Var.pv_eq, P32_eq, GEnv.pv_eq, P41_eq, Redir.pv_eq, P152_eq, Cmd.pv_eq, P42_eq, Word.pv_eq, GValue.pv_eq, pf_37, f8]
  refine AW.seq ?_
  refine AW.reg hS [(0, .pv (.slice (List.map GEnv.pv l1))), (1, .pv (.int .i64 group2)), (2, .pv (.str name3)), (7, .pv (.int .i64 r5)), (18, .pv (.bool r6))] [] ?_ ?_
  · simp -implicitDefEqProofs only [RUNS, qindex, Nat.reduceAdd, Nat.reduceLeDiff, Nat.reduceSub, reduceIte, Nat.reduceEqDiff, Nat.reduceLT, reduceCtorEq, Nat.reduceMul, Nat.reduceBEq, Int.reduceEq, if_true, if_false, eq_self, ne_eq, env_bT, P29_eq, Var.pv_eq, P32_eq, GEnv.pv_eq, P41_eq, Redir.pv_eq, P152_eq, Cmd.pv_eq, P42_eq, Word.pv_eq, GValue.pv_eq]
  refine AW.cond (b := r6) rfl (fun hb9 => ?_) (fun hb9 => ?_)
  · replace h := bif_t hb9 h
    refine AW.seq ?_
    replace h := Option.bind_eq_some_iff.1 h; obtain ⟨⟨r10, r11⟩, q12, h⟩ := h
    dsimp only at h
    have f13 := c_F42 l1 group2 [42] r10 r11 q12
    try dsimp only at f13
    try simp only [List.map_cons, List.map_nil, P29_eq, Var.pv_eq, P32_eq, GEnv.pv_eq, P41_eq, Redir.pv_eq, P152_eq, Cmd.pv_eq, P42_eq, Word.pv_eq, GValue.pv_eq] at f13
    refine AW.reg hS [(7, .pv (.int .i64 r5)), (9, .pv (.slice (List.map PV.str r10)))] [] ?_ ?_
    · simp -implicitDefEqProofs only [RUNS, qindex, Nat.reduceAdd, Nat.reduceLeDiff, Nat.reduceSub, reduceIte, Nat.reduceEqDiff, Nat.reduceLT, reduceCtorEq, Nat.reduceMul, Nat.reduceBEq, Int.reduceEq, if_true, if_false, eq_self, ne_eq, env_bT, T_3, T_9, T_22, T_34, P29_eq, Var.pv_eq, P32_eq, GEnv.pv_eq, P41_eq, Redir.pv_eq, P152_eq, Cmd.pv_eq, P42_eq, Word.pv_eq, GValue.pv_eq, pf_42, f13]
    refine AW.seq ?_
    refine AW.seq ?_
    refine AW.reg hS [(7, .pv (.int .i64 r5)), (9, .pv (.slice (List.map PV.str r10))), (28, .pv (.bool (decide ((r10.length : Int) < r5))))] [] ?_ ?_
    · simp -implicitDefEqProofs only [RUNS, qindex, Nat.reduceAdd, Nat.reduceLeDiff, Nat.reduceSub, reduceIte, Nat.reduceEqDiff, Nat.reduceLT, reduceCtorEq, Nat.reduceMul, Nat.reduceBEq, Int.reduceEq, if_true, if_false, eq_self, ne_eq, env_bT, T_3, T_9, T_29, P29_eq, Var.pv_eq, P32_eq, GEnv.pv_eq, P41_eq, Redir.pv_eq, P152_eq, Cmd.pv_eq, P42_eq, Word.pv_eq, GValue.pv_eq, eqT_3]
    refine AW.cond (b := decide ((r10.length : Int) < r5)) rfl (fun hb14 => ?_) (fun hb14 => ?_)
    · replace h := bif_t hb14 h
      refine AW.seq ?_
      refine AW.reg hS [(6, .nils)] [] ?_ ?_
      · simp -implicitDefEqProofs only [RUNS, qindex, Nat.reduceAdd, Nat.reduceLeDiff, Nat.reduceSub, reduceIte, Nat.reduceEqDiff, Nat.reduceLT, reduceCtorEq, Nat.reduceMul, Nat.reduceBEq, Int.reduceEq, if_true, if_false, eq_self, ne_eq, env_bT, P29_eq, Var.pv_eq, P32_eq, GEnv.pv_eq, P41_eq, Redir.pv_eq, P152_eq, Cmd.pv_eq, P42_eq, Word.pv_eq, GValue.pv_eq]
      refine AW.ret ?_
      cases h
      show finish _ _ _ _ _ = _
      first | rfl | (simp [finish, resOf, renArgs, toPV, selObjs, sl])
    · replace h := bif_f hb14 h
      refine AW.skip ?_
      refine AW.seq ?_
      replace h := Option.bind_eq_some_iff.1 h; obtain ⟨l15, q16, h⟩ := h
      have f17 := lslice_f q16
      have f17l := f17.2.2.1
      try simp only [Int.toNat_natCast, Int.toNat_zero] at f17l
      refine AW.reg hS [(6, .pv (.slice (List.map PV.str l15)))] [] ?_ ?_
      · simp -implicitDefEqProofs only [RUNS, qindex, Nat.reduceAdd, Nat.reduceLeDiff, Nat.reduceSub, reduceIte, Nat.reduceEqDiff, Nat.reduceLT, reduceCtorEq, Nat.reduceMul, Nat.reduceBEq, Int.reduceEq, if_true, if_false, eq_self, ne_eq, env_bT, T_3, T_9, T_29, P29_eq, Var.pv_eq, P32_eq, GEnv.pv_eq, P41_eq, Redir.pv_eq, P152_eq, Cmd.pv_eq, P42_eq, Word.pv_eq, GValue.pv_eq, eqT_3, Nat.sub_zero, List.drop_zero, f17.1, f17.2.1, f17l, f17.2.2.2.1, f17.2.2.2.2, List.map_take, List.map_drop, List.length_map, Int.toNat_natCast, Int.toNat_zero, str_all] <;> (try simp only [List.length_take, List.length_drop, List.length_map])
      clear f17 f17l
      refine AW.ret ?_
      cases h
      show finish _ _ _ _ _ = _
      first | rfl | (simp [finish, resOf, renArgs, toPV, selObjs, sl])
  · replace h := bif_f hb9 h
    refine AW.skip ?_
    refine AW.seq ?_
    replace h := Option.bind_eq_some_iff.1 h; obtain ⟨⟨r18, r19⟩, q20, h⟩ := h
    dsimp only at h
    have f21 := c_F42 l1 group2 name3 r18 r19 q20
    try dsimp only at f21
    refine AW.reg hS [(11, .pv (.slice (List.map PV.str r18)))] [] ?_ ?_
    · simp -implicitDefEqProofs only [RUNS, qindex, Nat.reduceAdd, Nat.reduceLeDiff, Nat.reduceSub, reduceIte, Nat.reduceEqDiff, Nat.reduceLT, reduceCtorEq, Nat.reduceMul, Nat.reduceBEq, Int.reduceEq, if_true, if_false, eq_self, ne_eq, env_bT, T_3, T_9, T_22, T_34, P29_eq, Var.pv_eq, P32_eq, GEnv.pv_eq, P41_eq, Redir.pv_eq, P152_eq, Cmd.pv_eq, P42_eq, Word.pv_eq, GValue.pv_eq, pf_42, f21]
    refine AW.seq ?_
    refine AW.reg hS [(6, .pv (.slice (List.map PV.str r18)))] [] ?_ ?_
    · simp -implicitDefEqProofs only [RUNS, qindex, Nat.reduceAdd, Nat.reduceLeDiff, Nat.reduceSub, reduceIte, Nat.reduceEqDiff, Nat.reduceLT, reduceCtorEq, Nat.reduceMul, Nat.reduceBEq, Int.reduceEq, if_true, if_false, eq_self, ne_eq, env_bT, P29_eq, Var.pv_eq, P32_eq, GEnv.pv_eq, P41_eq, Redir.pv_eq, P152_eq, Cmd.pv_eq, P42_eq, Word.pv_eq, GValue.pv_eq]
    refine AW.ret ?_
    cases h
    show finish _ _ _ _ _ = _
    first | rfl | (simp [finish, resOf, renArgs, toPV, selObjs, sl])

set_option maxHeartbeats 4000000 in
theorem g_F48 {O : Orc} (hS : Sound env O) (hpf : O.pf = pfn) (c_L_Repeat : C_L_Repeat O) (l1 : List Str) (r2 : List GValue) (h : F48 l1 = some r2) : Good env 48 [.pv (.slice (List.map PV.str l1))] [] [.pv (.slice (List.map GValue.pv r2))] [] := by
  have pf_62 : O.pf 62 = true := by rw [hpf]; rfl
  refine Good.start (fn := Tryz.f48) (N := 22) fn_48 rfl rfl (by simp) [] _ rfl rfl ?_
  rw [F48] at h
  refine AW.seq ?_
  refine AW.reg hS [(0, .pv (.slice (List.map PV.str l1)))] [] ?_ ?_
  · simp -implicitDefEqProofs only [RUNS, qindex, Nat.reduceAdd, Nat.reduceLeDiff, Nat.reduceSub, reduceIte, Nat.reduceEqDiff, Nat.reduceLT, reduceCtorEq, Nat.reduceMul, Nat.reduceBEq, Int.reduceEq, if_true, if_false, eq_self, ne_eq, env_bT, P29_eq, Var.pv_eq, P32_eq, GEnv.pv_eq, P41_eq, Redir.pv_eq, P152_eq, Cmd.pv_eq, P42_eq, Word.pv_eq, GValue.pv_eq]
  refine AW.seq ?_
  refine AW.reg hS [(0, .pv (.slice (List.map PV.str l1))), (3, .nils)] [] ?_ ?_
  · simp -implicitDefEqProofs only [RUNS, qindex, Nat.reduceAdd, Nat.reduceLeDiff, Nat.reduceSub, reduceIte, Nat.reduceEqDiff, Nat.reduceLT, reduceCtorEq, Nat.reduceMul, Nat.reduceBEq, Int.reduceEq, if_true, if_false, eq_self, ne_eq, env_bT, P29_eq, Var.pv_eq, P32_eq, GEnv.pv_eq, P41_eq, Redir.pv_eq, P152_eq, Cmd.pv_eq, P42_eq, Word.pv_eq, GValue.pv_eq]
  refine AW.weak (Weak.own 3 76 2 (by decide) rfl) ?_
  refine AW.weak (Weak.slots (L := [(0, .pv (.slice (List.map PV.str l1))), (3, .vec 0 (List.length ([] : List GValue)))]) ⟨rfl, rfl, trivial⟩) ?_
  refine AW.seq ?_
  refine AW.seq ?_
  refine AW.reg hS [(3, .vec 0 (List.length ([] : List GValue))), (6, .pv (.slice (List.map PV.str l1))), (7, .pv (.int .i64 (l1.length : Int))), (8, .pv (.int .i64 0))] [.row 76 2 (List.map GValue.pv ([] : List GValue)) true] ?_ ?_
  · simp -implicitDefEqProofs only [RUNS, qindex, Nat.reduceAdd, Nat.reduceLeDiff, Nat.reduceSub, reduceIte, Nat.reduceEqDiff, Nat.reduceLT, reduceCtorEq, Nat.reduceMul, Nat.reduceBEq, Int.reduceEq, if_true, if_false, eq_self, ne_eq, env_bT, T_9, T_29, P29_eq, Var.pv_eq, P32_eq, GEnv.pv_eq, P41_eq, Redir.pv_eq, P152_eq, Cmd.pv_eq, P42_eq, Word.pv_eq, GValue.pv_eq]
  refine AW.block ?_
  refine AW.weak (Weak.slots (L := [(3, .vec 0 (List.length ([] : List GValue))), (6, .pv (.slice (List.map PV.str l1))), (7, .pv (.int .i64 (l1.length : Int))), (8, .pv (.int .i64 0))]) ⟨rfl, rfl, rfl, rfl, trivial⟩) ?_
  refine AW.loopI (α := Nat × Int × (List GValue)) (fun (_, i3, l4) => ⟨sl [(3, .vec 0 (List.length l4)), (6, .pv (.slice (List.map PV.str l1))), (7, .pv (.int .i64 (l1.length : Int))), (8, .pv (.int .i64 i3))], 22, [.row 76 2 (List.map GValue.pv l4) true]⟩) (fun x => iter (F48_b1 l1) x.1 x.2 = some r2) (fun x => x.1) (BIG, (0, ([] : List GValue))) h ?_
  clear h
  intro ⟨n18, i3, l4⟩ h
  replace h := iter_some h; obtain ⟨m7, rfl, h⟩ := h
  rw [F48_b1] at h
  try dsimp only at h
  show AW _ _ _ _ ⟨sl [(3, .vec 0 (List.length l4)), (6, .pv (.slice (List.map PV.str l1))), (7, .pv (.int .i64 (l1.length : Int))), (8, .pv (.int .i64 i3))], 22, [.row 76 2 (List.map GValue.pv l4) true]⟩
  refine AW.seq ?_
  refine AW.reg hS [(3, .vec 0 (List.length l4)), (6, .pv (.slice (List.map PV.str l1))), (7, .pv (.int .i64 (l1.length : Int))), (8, .pv (.int .i64 i3)), (9, .pv (.bool (decide (i3 < (l1.length : Int)))))] [.row 76 2 (List.map GValue.pv l4) true] ?_ ?_
  · simp -implicitDefEqProofs only [RUNS, qindex, Nat.reduceAdd, Nat.reduceLeDiff, Nat.reduceSub, reduceIte, Nat.reduceEqDiff, Nat.reduceLT, reduceCtorEq, Nat.reduceMul, Nat.reduceBEq, Int.reduceEq, if_true, if_false, eq_self, ne_eq, env_bT, T_3, P29_eq, Var.pv_eq, P32_eq, GEnv.pv_eq, P41_eq, Redir.pv_eq, P152_eq, Cmd.pv_eq, P42_eq, Word.pv_eq, GValue.pv_eq, eqT_3]
  refine AW.seq ?_
  refine AW.cond (b := decide (i3 < (l1.length : Int))) rfl (fun hb8 => ?_) (fun hb8 => ?_)
  · replace h := bif_t hb8 h
    refine AW.skip ?_
    refine AW.seq ?_
    refine AW.block ?_
    refine AW.seq ?_
    replace h := Option.bind_eq_some_iff.1 h; obtain ⟨w9, q10, h⟩ := h
    have f11 := lidx_f q10
    refine AW.reg hS [(3, .vec 0 (List.length l4)), (5, .pv (.str w9)), (6, .pv (.slice (List.map PV.str l1))), (7, .pv (.int .i64 (l1.length : Int))), (8, .pv (.int .i64 i3))] [.row 76 2 (List.map GValue.pv l4) true] ?_ ?_
    · simp -implicitDefEqProofs only [RUNS, qindex, Nat.reduceAdd, Nat.reduceLeDiff, Nat.reduceSub, reduceIte, Nat.reduceEqDiff, Nat.reduceLT, reduceCtorEq, Nat.reduceMul, Nat.reduceBEq, Int.reduceEq, if_true, if_false, eq_self, ne_eq, env_bT, T_9, T_29, P29_eq, Var.pv_eq, P32_eq, GEnv.pv_eq, P41_eq, Redir.pv_eq, P152_eq, Cmd.pv_eq, P42_eq, Word.pv_eq, GValue.pv_eq, f11.1, f11.2.1]
    replace h := Option.bind_eq_some_iff.1 h; obtain ⟨t12, q13, h⟩ := h
    have f14 := c_L_Repeat [49] (w9.length : Int) t12 q13
    try dsimp only at f14
    try simp only [List.map_cons, List.map_nil, P29_eq, Var.pv_eq, P32_eq, GEnv.pv_eq, P41_eq, Redir.pv_eq, P152_eq, Cmd.pv_eq, P42_eq, Word.pv_eq, GValue.pv_eq] at f14
    replace h := Option.bind_eq_some_iff.1 h; obtain ⟨out15, q16, h⟩ := h
    have f17 := appO_f q16
    try simp only [List.length_cons, List.length_nil, Nat.zero_add, Nat.reduceAdd, Nat.reduceLeDiff, Nat.add_zero, Nat.reduceMul] at f17
    refine AW.reg hS [(3, .vec 0 (List.length out15)), (6, .pv (.slice (List.map PV.str l1))), (7, .pv (.int .i64 (l1.length : Int))), (8, .pv (.int .i64 i3))] [.row 76 2 (List.map GValue.pv out15) true] ?_ ?_
    · simp -implicitDefEqProofs only [RUNS, qindex, Nat.reduceAdd, Nat.reduceLeDiff, Nat.reduceSub, reduceIte, Nat.reduceEqDiff, Nat.reduceLT, reduceCtorEq, Nat.reduceMul, Nat.reduceBEq, Int.reduceEq, if_true, if_false, eq_self, ne_eq, env_bT, T_3, T_9, T_69, T_76, P29_eq, Var.pv_eq, P32_eq, GEnv.pv_eq, P41_eq, Redir.pv_eq, P152_eq, Cmd.pv_eq, P42_eq, Word.pv_eq, GValue.pv_eq, pf_62, f14, ownT_76, ownT_69, f17.1, f17.2, GValue.all] <;> (try simp only [List.length_take, List.length_drop, List.length_map])
    clear f17
    refine AW.reg hS [(3, .vec 0 (List.length out15)), (6, .pv (.slice (List.map PV.str l1))), (7, .pv (.int .i64 (l1.length : Int))), (8, .pv (.int .i64 (IntKind.wrap .i64 (i3 + 1))))] [.row 76 2 (List.map GValue.pv out15) true] ?_ ?_
    · simp -implicitDefEqProofs only [RUNS, qindex, Nat.reduceAdd, Nat.reduceLeDiff, Nat.reduceSub, reduceIte, Nat.reduceEqDiff, Nat.reduceLT, reduceCtorEq, Nat.reduceMul, Nat.reduceBEq, Int.reduceEq, if_true, if_false, eq_self, ne_eq, env_bT, T_3, P29_eq, Var.pv_eq, P32_eq, GEnv.pv_eq, P41_eq, Redir.pv_eq, P152_eq, Cmd.pv_eq, P42_eq, Word.pv_eq, GValue.pv_eq, eqT_3]
    exact ⟨(m7, (IntKind.wrap .i64 (i3 + 1), out15)), h, (Weak.norm (m := 1) (Nat.le_of_ble_eq_true rfl) ⟨rfl, rfl, rfl, rfl, trivial⟩ rfl rfl rfl), Nat.lt_succ_self _⟩
  · replace h := bif_f hb8 h
    refine AW.exit ?_
    refine AW.seq ?_
    refine AW.reg hS [(2, .vec 0 (List.length l4))] [.row 76 2 (List.map GValue.pv l4) true] ?_ ?_
    · simp -implicitDefEqProofs only [RUNS, qindex, Nat.reduceAdd, Nat.reduceLeDiff, Nat.reduceSub, reduceIte, Nat.reduceEqDiff, Nat.reduceLT, reduceCtorEq, Nat.reduceMul, Nat.reduceBEq, Int.reduceEq, if_true, if_false, eq_self, ne_eq, env_bT, P29_eq, Var.pv_eq, P32_eq, GEnv.pv_eq, P41_eq, Redir.pv_eq, P152_eq, Cmd.pv_eq, P42_eq, Word.pv_eq, GValue.pv_eq]
    refine AW.ret ?_
    cases h
    show finish _ _ _ _ _ = _
    first | rfl | (simp [finish, resOf, renArgs, toPV, selObjs, sl])

set_option maxHeartbeats 4000000 in
theorem g_F50 {O : Orc} (hS : Sound env O) (hpf : O.pf = pfn) (w36 : (List GEnv) → Int → Word → Option ((List GValue) × Int)) (c_w36 : C_w36 w36 O) (l1 : List GEnv) (group2 : Int) (words3 : List Word) (r4 : List GValue) (r5 : Int) (h : F50 w36 l1 group2 words3 = some (r4, r5)) : Good env 50 [.pv (.slice (List.map GEnv.pv l1)), .pv (.int .i64 group2), .pv (.slice (List.map Word.pv words3))] [] [.pv (.slice (List.map GValue.pv r4)), .pv (.int .i64 r5)] [] := by
  have pf_36 : O.pf 36 = true := by rw [hpf]; rfl
  refine Good.start (fn := Tryz.f50) (N := 37) fn_50 rfl rfl (by simp) [] _ rfl rfl ?_
  rw [F50] at h
  refine AW.seq ?_
  refine AW.reg hS [(0, .pv (.slice (List.map GEnv.pv l1))), (1, .pv (.int .i64 group2)), (2, .pv (.slice (List.map Word.pv words3)))] [] ?_ ?_
  · simp -implicitDefEqProofs only [RUNS, qindex, Nat.reduceAdd, Nat.reduceLeDiff, Nat.reduceSub, reduceIte, Nat.reduceEqDiff, Nat.reduceLT, reduceCtorEq, Nat.reduceMul, Nat.reduceBEq, Int.reduceEq, if_true, if_false, eq_self, ne_eq, env_bT, P29_eq, Var.pv_eq, P32_eq, GEnv.pv_eq, P41_eq, Redir.pv_eq, P152_eq, Cmd.pv_eq, P42_eq, Word.pv_eq, GValue.pv_eq]
  refine AW.seq ?_
  refine AW.reg hS [(0, .pv (.slice (List.map GEnv.pv l1))), (1, .pv (.int .i64 group2)), (2, .pv (.slice (List.map Word.pv words3))), (8, .nils)] [] ?_ ?_
  · simp -implicitDefEqProofs only [RUNS, qindex, Nat.reduceAdd, Nat.reduceLeDiff, Nat.reduceSub, reduceIte, Nat.reduceEqDiff, Nat.reduceLT, reduceCtorEq, Nat.reduceMul, Nat.reduceBEq, Int.reduceEq, if_true, if_false, eq_self, ne_eq, env_bT, P29_eq, Var.pv_eq, P32_eq, GEnv.pv_eq, P41_eq, Redir.pv_eq, P152_eq, Cmd.pv_eq, P42_eq, Word.pv_eq, GValue.pv_eq]
  refine AW.weak (Weak.own 8 76 2 (by decide) rfl) ?_
  refine AW.weak (Weak.slots (L := [(0, .pv (.slice (List.map GEnv.pv l1))), (1, .pv (.int .i64 group2)), (2, .pv (.slice (List.map Word.pv words3))), (8, .vec 0 (List.length ([] : List GValue)))]) ⟨rfl, rfl, rfl, rfl, trivial⟩) ?_
  refine AW.seq ?_
  refine AW.seq ?_
  refine AW.reg hS [(0, .pv (.slice (List.map GEnv.pv l1))), (1, .pv (.int .i64 group2)), (8, .vec 0 (List.length ([] : List GValue))), (13, .pv (.slice (List.map Word.pv words3))), (14, .pv (.int .i64 (words3.length : Int))), (15, .pv (.int .i64 0))] [.row 76 2 (List.map GValue.pv ([] : List GValue)) true] ?_ ?_
  · simp -implicitDefEqProofs only [RUNS, qindex, Nat.reduceAdd, Nat.reduceLeDiff, Nat.reduceSub, reduceIte, Nat.reduceEqDiff, Nat.reduceLT, reduceCtorEq, Nat.reduceMul, Nat.reduceBEq, Int.reduceEq, if_true, if_false, eq_self, ne_eq, env_bT, T_41, T_44, P29_eq, Var.pv_eq, P32_eq, GEnv.pv_eq, P41_eq, Redir.pv_eq, P152_eq, Cmd.pv_eq, P42_eq, Word.pv_eq, GValue.pv_eq]
  refine AW.block ?_
  refine AW.weak (Weak.slots (L := [(0, .pv (.slice (List.map GEnv.pv l1))), (1, .pv (.int .i64 group2)), (8, .vec 0 (List.length ([] : List GValue))), (13, .pv (.slice (List.map Word.pv words3))), (14, .pv (.int .i64 (words3.length : Int))), (15, .pv (.int .i64 0))]) ⟨rfl, rfl, rfl, rfl, rfl, rfl, trivial⟩) ?_
  refine AW.loopI (α := Nat × Int × (List GValue)) (fun (_, i6, l7) => ⟨sl [(0, .pv (.slice (List.map GEnv.pv l1))), (1, .pv (.int .i64 group2)), (8, .vec 0 (List.length l7)), (13, .pv (.slice (List.map Word.pv words3))), (14, .pv (.int .i64 (words3.length : Int))), (15, .pv (.int .i64 i6))], 37, [.row 76 2 (List.map GValue.pv l7) true]⟩) (fun x => iter (F50_b1 words3 w36 l1 group2) x.1 x.2 = some (r4, r5)) (fun x => x.1) (BIG, (0, ([] : List GValue))) h ?_
  clear h
  intro ⟨n24, i6, l7⟩ h
  replace h := iter_some h; obtain ⟨m10, rfl, h⟩ := h
  rw [F50_b1] at h
  try dsimp only at h
  show AW _ _ _ _ ⟨sl [(0, .pv (.slice (List.map GEnv.pv l1))), (1, .pv (.int .i64 group2)), (8, .vec 0 (List.length l7)), (13, .pv (.slice (List.map Word.pv words3))), (14, .pv (.int .i64 (words3.length : Int))), (15, .pv (.int .i64 i6))], 37, [.row 76 2 (List.map GValue.pv l7) true]⟩
  refine AW.seq ?_
  refine AW.reg hS [(0, .pv (.slice (List.map GEnv.pv l1))), (1, .pv (.int .i64 group2)), (8, .vec 0 (List.length l7)), (13, .pv (.slice (List.map Word.pv words3))), (14, .pv (.int .i64 (words3.length : Int))), (15, .pv (.int .i64 i6)), (16, .pv (.bool (decide (i6 < (words3.length : Int)))))] [.row 76 2 (List.map GValue.pv l7) true] ?_ ?_
  · simp -implicitDefEqProofs only [RUNS, qindex, Nat.reduceAdd, Nat.reduceLeDiff, Nat.reduceSub, reduceIte, Nat.reduceEqDiff, Nat.reduceLT, reduceCtorEq, Nat.reduceMul, Nat.reduceBEq, Int.reduceEq, if_true, if_false, eq_self, ne_eq, env_bT, T_3, P29_eq, Var.pv_eq, P32_eq, GEnv.pv_eq, P41_eq, Redir.pv_eq, P152_eq, Cmd.pv_eq, P42_eq, Word.pv_eq, GValue.pv_eq, eqT_3]
  refine AW.seq ?_
  refine AW.cond (b := decide (i6 < (words3.length : Int))) rfl (fun hb11 => ?_) (fun hb11 => ?_)
  · replace h := bif_t hb11 h
    refine AW.skip ?_
    refine AW.seq ?_
    refine AW.block ?_
    refine AW.seq ?_
    replace h := Option.bind_eq_some_iff.1 h; obtain ⟨u12, q13, h⟩ := h
    have f14 := lidx_f q13
    refine AW.reg hS [(0, .pv (.slice (List.map GEnv.pv l1))), (1, .pv (.int .i64 group2)), (8, .vec 0 (List.length l7)), (10, .ref 1 0), (13, .pv (.slice (List.map Word.pv words3))), (14, .pv (.int .i64 (words3.length : Int))), (15, .pv (.int .i64 i6))] [.row 76 2 (List.map GValue.pv l7) true, .var [.pv (.int .i64 u12.kind_), .pv (.str u12.text_), .pv (.str u12.quoted_), .pv (.slice (List.map Word.pv u12.words_)), .pv (.slice (List.map Cmd.pv u12.cmd_))]] ?_ ?_
    · simp -implicitDefEqProofs only [RUNS, qindex, Nat.reduceAdd, Nat.reduceLeDiff, Nat.reduceSub, reduceIte, Nat.reduceEqDiff, Nat.reduceLT, reduceCtorEq, Nat.reduceMul, Nat.reduceBEq, Int.reduceEq, if_true, if_false, eq_self, ne_eq, env_bT, T_41, T_44, P29_eq, Var.pv_eq, P32_eq, GEnv.pv_eq, P41_eq, Redir.pv_eq, P152_eq, Cmd.pv_eq, P42_eq, Word.pv_eq, GValue.pv_eq, f14.1, f14.2.1]
    refine AW.seq ?_
    replace h := Option.bind_eq_some_iff.1 h; obtain ⟨⟨r15, r16⟩, q17, h⟩ := h
    dsimp only at h
    have f18 := c_w36 l1 group2 u12 r15 r16 q17
    try dsimp only at f18
    refine AW.reg hS [(0, .pv (.slice (List.map GEnv.pv l1))), (1, .pv (.int .i64 group2)), (8, .vec 0 (List.length l7)), (11, .pv (.slice (List.map GValue.pv r15))), (12, .pv (.int .i64 r16)), (13, .pv (.slice (List.map Word.pv words3))), (14, .pv (.int .i64 (words3.length : Int))), (15, .pv (.int .i64 i6))] [.row 76 2 (List.map GValue.pv l7) true, .var [.pv (.int .i64 u12.kind_), .pv (.str u12.text_), .pv (.str u12.quoted_), .pv (.slice (List.map Word.pv u12.words_)), .pv (.slice (List.map Cmd.pv u12.cmd_))]] ?_ ?_
    · simp -implicitDefEqProofs only [RUNS, qindex, Nat.reduceAdd, Nat.reduceLeDiff, Nat.reduceSub, reduceIte, Nat.reduceEqDiff, Nat.reduceLT, reduceCtorEq, Nat.reduceMul, Nat.reduceBEq, Int.reduceEq, if_true, if_false, eq_self, ne_eq, env_bT, T_3, T_22, T_34, T_44, P29_eq, Var.pv_eq, P32_eq, GEnv.pv_eq, P41_eq, Redir.pv_eq, P152_eq, Cmd.pv_eq, P42_eq, Word.pv_eq, GValue.pv_eq, pf_36, f18]
    refine AW.seq ?_
    refine AW.seq ?_
    refine AW.reg hS [(0, .pv (.slice (List.map GEnv.pv l1))), (1, .pv (.int .i64 group2)), (8, .vec 0 (List.length l7)), (11, .pv (.slice (List.map GValue.pv r15))), (12, .pv (.int .i64 r16)), (13, .pv (.slice (List.map Word.pv words3))), (14, .pv (.int .i64 (words3.length : Int))), (15, .pv (.int .i64 i6)), (27, .pv (.bool (!decide (r16 = 0))))] [.row 76 2 (List.map GValue.pv l7) true, .var [.pv (.int .i64 u12.kind_), .pv (.str u12.text_), .pv (.str u12.quoted_), .pv (.slice (List.map Word.pv u12.words_)), .pv (.slice (List.map Cmd.pv u12.cmd_))]] ?_ ?_
    · simp -implicitDefEqProofs only [RUNS, qindex, Nat.reduceAdd, Nat.reduceLeDiff, Nat.reduceSub, reduceIte, Nat.reduceEqDiff, Nat.reduceLT, reduceCtorEq, Nat.reduceMul, Nat.reduceBEq, Int.reduceEq, if_true, if_false, eq_self, ne_eq, env_bT, T_25, P29_eq, Var.pv_eq, P32_eq, GEnv.pv_eq, P41_eq, Redir.pv_eq, P152_eq, Cmd.pv_eq, P42_eq, Word.pv_eq, GValue.pv_eq, eqT_25]
    refine AW.cond (b := !decide (r16 = 0)) rfl (fun hb19 => ?_) (fun hb19 => ?_)
    · replace h := bif_t hb19 h
      refine AW.seq ?_
      refine AW.reg hS [(6, .nils), (7, .pv (.int .i64 r16))] [.row 76 2 (List.map GValue.pv l7) true, .var [.pv (.int .i64 u12.kind_), .pv (.str u12.text_), .pv (.str u12.quoted_), .pv (.slice (List.map Word.pv u12.words_)), .pv (.slice (List.map Cmd.pv u12.cmd_))]] ?_ ?_
      · simp -implicitDefEqProofs only [RUNS, qindex, Nat.reduceAdd, Nat.reduceLeDiff, Nat.reduceSub, reduceIte, Nat.reduceEqDiff, Nat.reduceLT, reduceCtorEq, Nat.reduceMul, Nat.reduceBEq, Int.reduceEq, if_true, if_false, eq_self, ne_eq, env_bT, P29_eq, Var.pv_eq, P32_eq, GEnv.pv_eq, P41_eq, Redir.pv_eq, P152_eq, Cmd.pv_eq, P42_eq, Word.pv_eq, GValue.pv_eq]
      refine AW.ret ?_
      cases h
      show finish _ _ _ _ _ = _
      first | rfl | (simp [finish, resOf, renArgs, toPV, selObjs, sl])
    · replace h := bif_f hb19 h
      refine AW.skip ?_
      refine AW.seq ?_
      replace h := Option.bind_eq_some_iff.1 h; obtain ⟨out20, q21, h⟩ := h
      have f22 := appO_f q21
      try simp only [List.length_cons, List.length_nil, Nat.zero_add, Nat.reduceAdd, Nat.reduceLeDiff, Nat.add_zero, Nat.reduceMul] at f22
      refine AW.reg hS [(0, .pv (.slice (List.map GEnv.pv l1))), (1, .pv (.int .i64 group2)), (8, .vec 0 (List.length out20)), (13, .pv (.slice (List.map Word.pv words3))), (14, .pv (.int .i64 (words3.length : Int))), (15, .pv (.int .i64 i6))] [.row 76 2 (List.map GValue.pv out20) true, .var [.pv (.int .i64 u12.kind_), .pv (.str u12.text_), .pv (.str u12.quoted_), .pv (.slice (List.map Word.pv u12.words_)), .pv (.slice (List.map Cmd.pv u12.cmd_))]] ?_ ?_
      · simp -implicitDefEqProofs only [RUNS, qindex, Nat.reduceAdd, Nat.reduceLeDiff, Nat.reduceSub, reduceIte, Nat.reduceEqDiff, Nat.reduceLT, reduceCtorEq, Nat.reduceMul, Nat.reduceBEq, Int.reduceEq, if_true, if_false, eq_self, ne_eq, env_bT, T_69, T_76, P29_eq, Var.pv_eq, P32_eq, GEnv.pv_eq, P41_eq, Redir.pv_eq, P152_eq, Cmd.pv_eq, P42_eq, Word.pv_eq, GValue.pv_eq, f22.1, f22.2, GValue.all] <;> (try simp only [List.length_take, List.length_drop, List.length_map])
      clear f22
      refine AW.seq ?_
      refine AW.reg hS [(0, .pv (.slice (List.map GEnv.pv l1))), (1, .pv (.int .i64 group2)), (8, .vec 0 (List.length out20)), (13, .pv (.slice (List.map Word.pv words3))), (14, .pv (.int .i64 (words3.length : Int))), (15, .pv (.int .i64 i6)), (34, .pv (.bool (decide (256 < (out20.length : Int)))))] [.row 76 2 (List.map GValue.pv out20) true, .var [.pv (.int .i64 u12.kind_), .pv (.str u12.text_), .pv (.str u12.quoted_), .pv (.slice (List.map Word.pv u12.words_)), .pv (.slice (List.map Cmd.pv u12.cmd_))]] ?_ ?_
      · simp -implicitDefEqProofs only [RUNS, qindex, Nat.reduceAdd, Nat.reduceLeDiff, Nat.reduceSub, reduceIte, Nat.reduceEqDiff, Nat.reduceLT, reduceCtorEq, Nat.reduceMul, Nat.reduceBEq, Int.reduceEq, if_true, if_false, eq_self, ne_eq, env_bT, T_3, T_69, T_76, P29_eq, Var.pv_eq, P32_eq, GEnv.pv_eq, P41_eq, Redir.pv_eq, P152_eq, Cmd.pv_eq, P42_eq, Word.pv_eq, GValue.pv_eq, eqT_3]
      refine AW.cond (b := decide (256 < (out20.length : Int))) rfl (fun hb23 => ?_) (fun hb23 => ?_)
      · replace h := bif_t hb23 h
        refine AW.seq ?_
        refine AW.reg hS [(6, .nils), (7, .pv (.int .i64 22))] [.row 76 2 (List.map GValue.pv out20) true, .var [.pv (.int .i64 u12.kind_), .pv (.str u12.text_), .pv (.str u12.quoted_), .pv (.slice (List.map Word.pv u12.words_)), .pv (.slice (List.map Cmd.pv u12.cmd_))]] ?_ ?_
        · simp -implicitDefEqProofs only [RUNS, qindex, Nat.reduceAdd, Nat.reduceLeDiff, Nat.reduceSub, reduceIte, Nat.reduceEqDiff, Nat.reduceLT, reduceCtorEq, Nat.reduceMul, Nat.reduceBEq, Int.reduceEq, if_true, if_false, eq_self, ne_eq, env_bT, P29_eq, Var.pv_eq, P32_eq, GEnv.pv_eq, P41_eq, Redir.pv_eq, P152_eq, Cmd.pv_eq, P42_eq, Word.pv_eq, GValue.pv_eq]
        refine AW.ret ?_
        cases h
        show finish _ _ _ _ _ = _
        first | rfl | (simp [finish, resOf, renArgs, toPV, selObjs, sl])
      · replace h := bif_f hb23 h
        refine AW.skip ?_
        refine AW.reg hS [(0, .pv (.slice (List.map GEnv.pv l1))), (1, .pv (.int .i64 group2)), (8, .vec 0 (List.length out20)), (13, .pv (.slice (List.map Word.pv words3))), (14, .pv (.int .i64 (words3.length : Int))), (15, .pv (.int .i64 (IntKind.wrap .i64 (i6 + 1))))] [.row 76 2 (List.map GValue.pv out20) true, .var [.pv (.int .i64 u12.kind_), .pv (.str u12.text_), .pv (.str u12.quoted_), .pv (.slice (List.map Word.pv u12.words_)), .pv (.slice (List.map Cmd.pv u12.cmd_))]] ?_ ?_
        · simp -implicitDefEqProofs only [RUNS, qindex, Nat.reduceAdd, Nat.reduceLeDiff, Nat.reduceSub, reduceIte, Nat.reduceEqDiff, Nat.reduceLT, reduceCtorEq, Nat.reduceMul, Nat.reduceBEq, Int.reduceEq, if_true, if_false, eq_self, ne_eq, env_bT, T_3, P29_eq, Var.pv_eq, P32_eq, GEnv.pv_eq, P41_eq, Redir.pv_eq, P152_eq, Cmd.pv_eq, P42_eq, Word.pv_eq, GValue.pv_eq, eqT_3]
        exact ⟨(m10, (IntKind.wrap .i64 (i6 + 1), out20)), h, (Weak.norm (m := 1) (Nat.le_of_ble_eq_true rfl) ⟨rfl, rfl, rfl, rfl, rfl, rfl, trivial⟩ rfl rfl rfl), Nat.lt_succ_self _⟩
  · replace h := bif_f hb11 h
    refine AW.exit ?_
    refine AW.seq ?_
    refine AW.reg hS [(6, .vec 0 (List.length l7)), (7, .pv (.int .i64 0))] [.row 76 2 (List.map GValue.pv l7) true] ?_ ?_
    · simp -implicitDefEqProofs only [RUNS, qindex, Nat.reduceAdd, Nat.reduceLeDiff, Nat.reduceSub, reduceIte, Nat.reduceEqDiff, Nat.reduceLT, reduceCtorEq, Nat.reduceMul, Nat.reduceBEq, Int.reduceEq, if_true, if_false, eq_self, ne_eq, env_bT, P29_eq, Var.pv_eq, P32_eq, GEnv.pv_eq, P41_eq, Redir.pv_eq, P152_eq, Cmd.pv_eq, P42_eq, Word.pv_eq, GValue.pv_eq]
    refine AW.ret ?_
    cases h
    show finish _ _ _ _ _ = _
    first | rfl | (simp [finish, resOf, renArgs, toPV, selObjs, sl])

end Go.Abs.U5Z
