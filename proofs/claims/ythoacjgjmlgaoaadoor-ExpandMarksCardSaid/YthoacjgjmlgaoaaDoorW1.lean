/- The layer 50 laws: the functions walked. -/
import Derived.Test.YthoacjgjmlgaoaaDoorD1
set_option linter.unusedVariables false
set_option linter.unusedSimpArgs false
set_option maxRecDepth 8000
namespace Go.Abs.U50
open Go.RowKit Go.Proofs

set_option maxHeartbeats 4000000 in
theorem g_F7 {O : Orc} (hS : Sound env O) (hpf : O.pf = pfn) (l1 : List Str) (most2 : Int) (r3 : Bool) (h : F7 l1 most2 = some r3) : Good env 7 [.pv (.slice (List.map PV.str l1)), .pv (.int .i64 most2)] [] [.pv (.bool r3)] [] := by
  refine Good.start (fn := Tryd.f7) (N := 29) fn_7 rfl rfl (by simp) [] _ rfl rfl ?_
  rw [F7] at h
  refine AW.seq ?_
  refine AW.reg hS [(0, .pv (.slice (List.map PV.str l1))), (1, .pv (.int .i64 most2))] [] ?_ ?_
  · simp -implicitDefEqProofs only [RUNS, qindex, Nat.reduceAdd, Nat.reduceLeDiff, Nat.reduceSub, reduceIte, Nat.reduceEqDiff, Nat.reduceLT, reduceCtorEq, Nat.reduceMul, Nat.reduceBEq, Int.reduceEq, if_true, if_false, eq_self, ne_eq, env_bT, P31_eq, Redir.pv_eq, P154_eq, Cmd.pv_eq, P32_eq, Word.pv_eq, GValue.pv_eq, P22_eq, Var.pv_eq, P52_eq, GEnv.pv_eq]
  refine AW.seq ?_
  refine AW.reg hS [(0, .pv (.slice (List.map PV.str l1))), (1, .pv (.int .i64 most2)), (5, .pv (.int .i64 0))] [] ?_ ?_
  · simp -implicitDefEqProofs only [RUNS, qindex, Nat.reduceAdd, Nat.reduceLeDiff, Nat.reduceSub, reduceIte, Nat.reduceEqDiff, Nat.reduceLT, reduceCtorEq, Nat.reduceMul, Nat.reduceBEq, Int.reduceEq, if_true, if_false, eq_self, ne_eq, env_bT, P31_eq, Redir.pv_eq, P154_eq, Cmd.pv_eq, P32_eq, Word.pv_eq, GValue.pv_eq, P22_eq, Var.pv_eq, P52_eq, GEnv.pv_eq]
  refine AW.seq ?_
  refine AW.seq ?_
  refine AW.reg hS [(0, .pv (.slice (List.map PV.str l1))), (1, .pv (.int .i64 most2)), (5, .pv (.int .i64 0)), (8, .pv (.int .i64 (l1.length : Int))), (9, .pv (.int .i64 0))] [] ?_ ?_
  · simp -implicitDefEqProofs only [RUNS, qindex, Nat.reduceAdd, Nat.reduceLeDiff, Nat.reduceSub, reduceIte, Nat.reduceEqDiff, Nat.reduceLT, reduceCtorEq, Nat.reduceMul, Nat.reduceBEq, Int.reduceEq, if_true, if_false, eq_self, ne_eq, env_bT, T_9, T_22, P31_eq, Redir.pv_eq, P154_eq, Cmd.pv_eq, P32_eq, Word.pv_eq, GValue.pv_eq, P22_eq, Var.pv_eq, P52_eq, GEnv.pv_eq]
  refine AW.block ?_
  refine AW.weak (Weak.slots (L := [(0, .pv (.slice (List.map PV.str l1))), (1, .pv (.int .i64 most2)), (5, .pv (.int .i64 0)), (8, .pv (.int .i64 (l1.length : Int))), (9, .pv (.int .i64 0))]) ⟨rfl, rfl, rfl, rfl, rfl, trivial⟩) ?_
  refine AW.loopI (α := Nat × Int × Int) (fun (_, n4, i5) => ⟨sl [(0, .pv (.slice (List.map PV.str l1))), (1, .pv (.int .i64 most2)), (5, .pv (.int .i64 n4)), (8, .pv (.int .i64 (l1.length : Int))), (9, .pv (.int .i64 i5))], 29, []⟩) (fun x => iter (F7_b1 l1 most2) x.1 x.2 = some r3) (fun x => x.1) (BIG, (0, 0)) h ?_
  clear h
  intro ⟨n13, n4, i5⟩ h
  replace h := iter_some h; obtain ⟨m8, rfl, h⟩ := h
  rw [F7_b1] at h
  try dsimp only at h
  show AW _ _ _ _ ⟨sl [(0, .pv (.slice (List.map PV.str l1))), (1, .pv (.int .i64 most2)), (5, .pv (.int .i64 n4)), (8, .pv (.int .i64 (l1.length : Int))), (9, .pv (.int .i64 i5))], 29, []⟩
  refine AW.seq ?_
  refine AW.reg hS [(0, .pv (.slice (List.map PV.str l1))), (1, .pv (.int .i64 most2)), (5, .pv (.int .i64 n4)), (8, .pv (.int .i64 (l1.length : Int))), (9, .pv (.int .i64 i5)), (10, .pv (.bool (decide (i5 < (l1.length : Int)))))] [] ?_ ?_
  · simp -implicitDefEqProofs only [RUNS, qindex, Nat.reduceAdd, Nat.reduceLeDiff, Nat.reduceSub, reduceIte, Nat.reduceEqDiff, Nat.reduceLT, reduceCtorEq, Nat.reduceMul, Nat.reduceBEq, Int.reduceEq, if_true, if_false, eq_self, ne_eq, env_bT, T_3, P31_eq, Redir.pv_eq, P154_eq, Cmd.pv_eq, P32_eq, Word.pv_eq, GValue.pv_eq, P22_eq, Var.pv_eq, P52_eq, GEnv.pv_eq, eqT_3]
  refine AW.seq ?_
  refine AW.cond (b := decide (i5 < (l1.length : Int))) rfl (fun hb9 => ?_) (fun hb9 => ?_)
  · replace h := bif_t hb9 h
    refine AW.skip ?_
    refine AW.seq ?_
    refine AW.block ?_
    refine AW.seq ?_
    refine AW.reg hS [(0, .pv (.slice (List.map PV.str l1))), (1, .pv (.int .i64 most2)), (5, .pv (.int .i64 n4)), (6, .pv (.int .i64 i5)), (8, .pv (.int .i64 (l1.length : Int))), (9, .pv (.int .i64 i5))] [] ?_ ?_
    · simp -implicitDefEqProofs only [RUNS, qindex, Nat.reduceAdd, Nat.reduceLeDiff, Nat.reduceSub, reduceIte, Nat.reduceEqDiff, Nat.reduceLT, reduceCtorEq, Nat.reduceMul, Nat.reduceBEq, Int.reduceEq, if_true, if_false, eq_self, ne_eq, env_bT, P31_eq, Redir.pv_eq, P154_eq, Cmd.pv_eq, P32_eq, Word.pv_eq, GValue.pv_eq, P22_eq, Var.pv_eq, P52_eq, GEnv.pv_eq]
    replace h := Option.bind_eq_some_iff.1 h; obtain ⟨w10, q11, h⟩ := h
    have f12 := lidx_f q11
    refine AW.reg hS [(0, .pv (.slice (List.map PV.str l1))), (1, .pv (.int .i64 most2)), (5, .pv (.int .i64 (IntKind.wrap .i64 (n4 + (imin (w10.length : Int) 1048576))))), (8, .pv (.int .i64 (l1.length : Int))), (9, .pv (.int .i64 i5))] [] ?_ ?_
    · simp -implicitDefEqProofs only [RUNS, qindex, Nat.reduceAdd, Nat.reduceLeDiff, Nat.reduceSub, reduceIte, Nat.reduceEqDiff, Nat.reduceLT, reduceCtorEq, Nat.reduceMul, Nat.reduceBEq, Int.reduceEq, if_true, if_false, eq_self, ne_eq, env_bT, T_3, T_9, T_22, P31_eq, Redir.pv_eq, P154_eq, Cmd.pv_eq, P32_eq, Word.pv_eq, GValue.pv_eq, P22_eq, Var.pv_eq, P52_eq, GEnv.pv_eq, f12.1, f12.2.1, eqT_3]
    refine AW.reg hS [(0, .pv (.slice (List.map PV.str l1))), (1, .pv (.int .i64 most2)), (5, .pv (.int .i64 (IntKind.wrap .i64 (n4 + (imin (w10.length : Int) 1048576))))), (8, .pv (.int .i64 (l1.length : Int))), (9, .pv (.int .i64 (IntKind.wrap .i64 (i5 + 1))))] [] ?_ ?_
    · simp -implicitDefEqProofs only [RUNS, qindex, Nat.reduceAdd, Nat.reduceLeDiff, Nat.reduceSub, reduceIte, Nat.reduceEqDiff, Nat.reduceLT, reduceCtorEq, Nat.reduceMul, Nat.reduceBEq, Int.reduceEq, if_true, if_false, eq_self, ne_eq, env_bT, T_3, P31_eq, Redir.pv_eq, P154_eq, Cmd.pv_eq, P32_eq, Word.pv_eq, GValue.pv_eq, P22_eq, Var.pv_eq, P52_eq, GEnv.pv_eq, eqT_3]
    exact ⟨(m8, (IntKind.wrap .i64 (n4 + (imin (w10.length : Int) 1048576)), IntKind.wrap .i64 (i5 + 1))), h, (Weak.norm (m := 0) (Nat.le_of_ble_eq_true rfl) ⟨rfl, rfl, rfl, rfl, rfl, trivial⟩ rfl rfl rfl), Nat.lt_succ_self _⟩
  · replace h := bif_f hb9 h
    refine AW.exit ?_
    refine AW.seq ?_
    refine AW.reg hS [(4, .pv (.bool (decide (n4 ≤ most2) && decide ((l1.length : Int) ≤ 400))))] [] ?_ ?_
    · clear h
      (simp -implicitDefEqProofs only [RUNS, qindex, Nat.reduceAdd, Nat.reduceLeDiff, Nat.reduceSub, reduceIte, Nat.reduceEqDiff, Nat.reduceLT, reduceCtorEq, Nat.reduceMul, Nat.reduceBEq, Int.reduceEq, if_true, if_false, eq_self, ne_eq, env_bT, T_3, T_9, T_22, P31_eq, Redir.pv_eq, P154_eq, Cmd.pv_eq, P32_eq, Word.pv_eq, GValue.pv_eq, P22_eq, Var.pv_eq, P52_eq, GEnv.pv_eq, eqT_3]); repeat' (split <;> rename_i hb <;> (try simp only [HBS, ge_iff_le, gt_iff_lt] at hb) <;> simp -implicitDefEqProofs only [RUNS, qindex, Nat.reduceAdd, Nat.reduceLeDiff, Nat.reduceSub, reduceIte, Nat.reduceEqDiff, Nat.reduceLT, reduceCtorEq, Nat.reduceMul, Nat.reduceBEq, Int.reduceEq, if_true, if_false, eq_self, ne_eq, env_bT, T_3, T_9, T_22, P31_eq, Redir.pv_eq, P154_eq, Cmd.pv_eq, P32_eq, Word.pv_eq, GValue.pv_eq, P22_eq, Var.pv_eq, P52_eq, GEnv.pv_eq, eqT_3, *, decide_true, decide_false, Decidable.not_not, not_false_eq_true, not_true_eq_false])
      all_goals (first | (simp only [BOOLS]; done) | (simp [*]; done) | ((try simp only [CLOS, beq_iff_eq, bne_iff_ne, ne_eq] at *) <;> omega) | (simp_all; done) | (simp_all <;> omega))
    refine AW.ret ?_
    cases h
    show finish _ _ _ _ _ = _
    first | rfl | (simp [finish, resOf, renArgs, toPV, selObjs, sl])

set_option maxHeartbeats 4000000 in
theorem g_F22 {O : Orc} (hS : Sound env O) (hpf : O.pf = pfn) (l1 : List Str) (r2 : List GValue) (h : F22 l1 = some r2) : Good env 22 [.pv (.slice (List.map PV.str l1))] [] [.pv (.slice (List.map GValue.pv r2))] [] := by
  refine Good.start (fn := Tryd.f22) (N := 19) fn_22 rfl rfl (by simp) [] _ rfl rfl ?_
  rw [F22] at h
  refine AW.seq ?_
  refine AW.reg hS [(0, .pv (.slice (List.map PV.str l1)))] [] ?_ ?_
  · simp -implicitDefEqProofs only [RUNS, qindex, Nat.reduceAdd, Nat.reduceLeDiff, Nat.reduceSub, reduceIte, Nat.reduceEqDiff, Nat.reduceLT, reduceCtorEq, Nat.reduceMul, Nat.reduceBEq, Int.reduceEq, if_true, if_false, eq_self, ne_eq, env_bT, P31_eq, Redir.pv_eq, P154_eq, Cmd.pv_eq, P32_eq, Word.pv_eq, GValue.pv_eq, P22_eq, Var.pv_eq, P52_eq, GEnv.pv_eq]
  refine AW.seq ?_
  refine AW.reg hS [(0, .pv (.slice (List.map PV.str l1))), (3, .nils)] [] ?_ ?_
  · simp -implicitDefEqProofs only [RUNS, qindex, Nat.reduceAdd, Nat.reduceLeDiff, Nat.reduceSub, reduceIte, Nat.reduceEqDiff, Nat.reduceLT, reduceCtorEq, Nat.reduceMul, Nat.reduceBEq, Int.reduceEq, if_true, if_false, eq_self, ne_eq, env_bT, P31_eq, Redir.pv_eq, P154_eq, Cmd.pv_eq, P32_eq, Word.pv_eq, GValue.pv_eq, P22_eq, Var.pv_eq, P52_eq, GEnv.pv_eq]
  refine AW.weak (Weak.own 3 62 2 (by decide) rfl) ?_
  refine AW.weak (Weak.slots (L := [(0, .pv (.slice (List.map PV.str l1))), (3, .vec 0 (List.length ([] : List GValue)))]) ⟨rfl, rfl, trivial⟩) ?_
  refine AW.seq ?_
  refine AW.seq ?_
  refine AW.reg hS [(3, .vec 0 (List.length ([] : List GValue))), (6, .pv (.slice (List.map PV.str l1))), (7, .pv (.int .i64 (l1.length : Int))), (8, .pv (.int .i64 0))] [.row 62 2 (List.map GValue.pv ([] : List GValue)) true] ?_ ?_
  · simp -implicitDefEqProofs only [RUNS, qindex, Nat.reduceAdd, Nat.reduceLeDiff, Nat.reduceSub, reduceIte, Nat.reduceEqDiff, Nat.reduceLT, reduceCtorEq, Nat.reduceMul, Nat.reduceBEq, Int.reduceEq, if_true, if_false, eq_self, ne_eq, env_bT, T_9, T_22, P31_eq, Redir.pv_eq, P154_eq, Cmd.pv_eq, P32_eq, Word.pv_eq, GValue.pv_eq, P22_eq, Var.pv_eq, P52_eq, GEnv.pv_eq]
  refine AW.block ?_
  refine AW.weak (Weak.slots (L := [(3, .vec 0 (List.length ([] : List GValue))), (6, .pv (.slice (List.map PV.str l1))), (7, .pv (.int .i64 (l1.length : Int))), (8, .pv (.int .i64 0))]) ⟨rfl, rfl, rfl, rfl, trivial⟩) ?_
  refine AW.loopI (α := Nat × Int × (List GValue)) (fun (_, i3, l4) => ⟨sl [(3, .vec 0 (List.length l4)), (6, .pv (.slice (List.map PV.str l1))), (7, .pv (.int .i64 (l1.length : Int))), (8, .pv (.int .i64 i3))], 19, [.row 62 2 (List.map GValue.pv l4) true]⟩) (fun x => iter (F22_b1 l1) x.1 x.2 = some r2) (fun x => x.1) (BIG, (0, ([] : List GValue))) h ?_
  clear h
  intro ⟨n15, i3, l4⟩ h
  replace h := iter_some h; obtain ⟨m7, rfl, h⟩ := h
  rw [F22_b1] at h
  try dsimp only at h
  show AW _ _ _ _ ⟨sl [(3, .vec 0 (List.length l4)), (6, .pv (.slice (List.map PV.str l1))), (7, .pv (.int .i64 (l1.length : Int))), (8, .pv (.int .i64 i3))], 19, [.row 62 2 (List.map GValue.pv l4) true]⟩
  refine AW.seq ?_
  refine AW.reg hS [(3, .vec 0 (List.length l4)), (6, .pv (.slice (List.map PV.str l1))), (7, .pv (.int .i64 (l1.length : Int))), (8, .pv (.int .i64 i3)), (9, .pv (.bool (decide (i3 < (l1.length : Int)))))] [.row 62 2 (List.map GValue.pv l4) true] ?_ ?_
  · simp -implicitDefEqProofs only [RUNS, qindex, Nat.reduceAdd, Nat.reduceLeDiff, Nat.reduceSub, reduceIte, Nat.reduceEqDiff, Nat.reduceLT, reduceCtorEq, Nat.reduceMul, Nat.reduceBEq, Int.reduceEq, if_true, if_false, eq_self, ne_eq, env_bT, T_3, P31_eq, Redir.pv_eq, P154_eq, Cmd.pv_eq, P32_eq, Word.pv_eq, GValue.pv_eq, P22_eq, Var.pv_eq, P52_eq, GEnv.pv_eq, eqT_3]
  refine AW.seq ?_
  refine AW.cond (b := decide (i3 < (l1.length : Int))) rfl (fun hb8 => ?_) (fun hb8 => ?_)
  · replace h := bif_t hb8 h
    refine AW.skip ?_
    refine AW.seq ?_
    refine AW.block ?_
    refine AW.seq ?_
    replace h := Option.bind_eq_some_iff.1 h; obtain ⟨w9, q10, h⟩ := h
    have f11 := lidx_f q10
    refine AW.reg hS [(3, .vec 0 (List.length l4)), (5, .pv (.str w9)), (6, .pv (.slice (List.map PV.str l1))), (7, .pv (.int .i64 (l1.length : Int))), (8, .pv (.int .i64 i3))] [.row 62 2 (List.map GValue.pv l4) true] ?_ ?_
    · simp -implicitDefEqProofs only [RUNS, qindex, Nat.reduceAdd, Nat.reduceLeDiff, Nat.reduceSub, reduceIte, Nat.reduceEqDiff, Nat.reduceLT, reduceCtorEq, Nat.reduceMul, Nat.reduceBEq, Int.reduceEq, if_true, if_false, eq_self, ne_eq, env_bT, T_9, T_22, P31_eq, Redir.pv_eq, P154_eq, Cmd.pv_eq, P32_eq, Word.pv_eq, GValue.pv_eq, P22_eq, Var.pv_eq, P52_eq, GEnv.pv_eq, f11.1, f11.2.1]
    replace h := Option.bind_eq_some_iff.1 h; obtain ⟨out12, q13, h⟩ := h
    have f14 := appO_f q13
    try simp only [List.length_cons, List.length_nil, Nat.zero_add, Nat.reduceAdd, Nat.reduceLeDiff, Nat.add_zero, Nat.reduceMul] at f14
    refine AW.reg hS [(3, .vec 0 (List.length out12)), (6, .pv (.slice (List.map PV.str l1))), (7, .pv (.int .i64 (l1.length : Int))), (8, .pv (.int .i64 i3))] [.row 62 2 (List.map GValue.pv out12) true] ?_ ?_
    · simp -implicitDefEqProofs only [RUNS, qindex, Nat.reduceAdd, Nat.reduceLeDiff, Nat.reduceSub, reduceIte, Nat.reduceEqDiff, Nat.reduceLT, reduceCtorEq, Nat.reduceMul, Nat.reduceBEq, Int.reduceEq, if_true, if_false, eq_self, ne_eq, env_bT, T_45, T_62, P31_eq, Redir.pv_eq, P154_eq, Cmd.pv_eq, P32_eq, Word.pv_eq, GValue.pv_eq, P22_eq, Var.pv_eq, P52_eq, GEnv.pv_eq, ownT_62, ownT_45, f14.1, f14.2, GValue.all] <;> (try simp only [List.length_take, List.length_drop, List.length_map])
    clear f14
    refine AW.reg hS [(3, .vec 0 (List.length out12)), (6, .pv (.slice (List.map PV.str l1))), (7, .pv (.int .i64 (l1.length : Int))), (8, .pv (.int .i64 (IntKind.wrap .i64 (i3 + 1))))] [.row 62 2 (List.map GValue.pv out12) true] ?_ ?_
    · simp -implicitDefEqProofs only [RUNS, qindex, Nat.reduceAdd, Nat.reduceLeDiff, Nat.reduceSub, reduceIte, Nat.reduceEqDiff, Nat.reduceLT, reduceCtorEq, Nat.reduceMul, Nat.reduceBEq, Int.reduceEq, if_true, if_false, eq_self, ne_eq, env_bT, T_3, P31_eq, Redir.pv_eq, P154_eq, Cmd.pv_eq, P32_eq, Word.pv_eq, GValue.pv_eq, P22_eq, Var.pv_eq, P52_eq, GEnv.pv_eq, eqT_3]
    exact ⟨(m7, (IntKind.wrap .i64 (i3 + 1), out12)), h, (Weak.norm (m := 1) (Nat.le_of_ble_eq_true rfl) ⟨rfl, rfl, rfl, rfl, trivial⟩ rfl rfl rfl), Nat.lt_succ_self _⟩
  · replace h := bif_f hb8 h
    refine AW.exit ?_
    refine AW.seq ?_
    refine AW.reg hS [(2, .vec 0 (List.length l4))] [.row 62 2 (List.map GValue.pv l4) true] ?_ ?_
    · simp -implicitDefEqProofs only [RUNS, qindex, Nat.reduceAdd, Nat.reduceLeDiff, Nat.reduceSub, reduceIte, Nat.reduceEqDiff, Nat.reduceLT, reduceCtorEq, Nat.reduceMul, Nat.reduceBEq, Int.reduceEq, if_true, if_false, eq_self, ne_eq, env_bT, P31_eq, Redir.pv_eq, P154_eq, Cmd.pv_eq, P32_eq, Word.pv_eq, GValue.pv_eq, P22_eq, Var.pv_eq, P52_eq, GEnv.pv_eq]
    refine AW.ret ?_
    cases h
    show finish _ _ _ _ _ = _
    first | rfl | (simp [finish, resOf, renArgs, toPV, selObjs, sl])

set_option maxHeartbeats 4000000 in
theorem g_F40 {O : Orc} (hS : Sound env O) (hpf : O.pf = pfn) (a1 : GValue) (b2 : GValue) (r3 : GValue) (r4 : Int) (h : F40 a1 b2 = some (r3, r4)) : Good env 40 [.pv (.agg [.str a1.text_, .str a1.marks_]), .pv (.agg [.str b2.text_, .str b2.marks_])] [] [.pv (.agg [.str r3.text_, .str r3.marks_]), .pv (.int .i64 r4)] [] := by
  refine Good.start (fn := Tryd.f40) (N := 26) fn_40 rfl rfl (by simp) [] _ rfl rfl ?_
  rw [F40] at h
  refine AW.seq ?_
  refine AW.reg hS [(2, .ref 0 0), (3, .ref 1 0), (4, .ref 2 0)] [.var [.pv (.str a1.text_), .pv (.str a1.marks_)], .var [.pv (.str b2.text_), .pv (.str b2.marks_)], .var [.pv (.str []), .pv (.str [])]] ?_ ?_
  · simp -implicitDefEqProofs only [RUNS, qindex, Nat.reduceAdd, Nat.reduceLeDiff, Nat.reduceSub, reduceIte, Nat.reduceEqDiff, Nat.reduceLT, reduceCtorEq, Nat.reduceMul, Nat.reduceBEq, Int.reduceEq, if_true, if_false, eq_self, ne_eq, env_bT, T_62, P31_eq, Redir.pv_eq, P154_eq, Cmd.pv_eq, P32_eq, Word.pv_eq, GValue.pv_eq, P22_eq, Var.pv_eq, P52_eq, GEnv.pv_eq]
  refine AW.seq ?_
  refine AW.seq ?_
  refine AW.reg hS [(2, .ref 0 0), (3, .ref 1 0), (4, .ref 2 0), (13, .pv (.bool (decide (65536 < IntKind.wrap .i64 ((a1.text_.length : Int) + (b2.text_.length : Int))))))] [.var [.pv (.str a1.text_), .pv (.str a1.marks_)], .var [.pv (.str b2.text_), .pv (.str b2.marks_)], .var [.pv (.str []), .pv (.str [])]] ?_ ?_
  · simp -implicitDefEqProofs only [RUNS, qindex, Nat.reduceAdd, Nat.reduceLeDiff, Nat.reduceSub, reduceIte, Nat.reduceEqDiff, Nat.reduceLT, reduceCtorEq, Nat.reduceMul, Nat.reduceBEq, Int.reduceEq, if_true, if_false, eq_self, ne_eq, env_bT, T_3, T_9, T_62, P31_eq, Redir.pv_eq, P154_eq, Cmd.pv_eq, P32_eq, Word.pv_eq, GValue.pv_eq, P22_eq, Var.pv_eq, P52_eq, GEnv.pv_eq, eqT_3]
  refine AW.cond (b := decide (65536 < IntKind.wrap .i64 ((a1.text_.length : Int) + (b2.text_.length : Int)))) rfl (fun hb5 => ?_) (fun hb5 => ?_)
  · replace h := bif_t hb5 h
    refine AW.seq ?_
    refine AW.reg hS [(4, .ref 2 0), (5, .pv (.int .i64 4))] [.var [.pv (.str a1.text_), .pv (.str a1.marks_)], .var [.pv (.str b2.text_), .pv (.str b2.marks_)], .var [.pv (.str []), .pv (.str [])]] ?_ ?_
    · simp -implicitDefEqProofs only [RUNS, qindex, Nat.reduceAdd, Nat.reduceLeDiff, Nat.reduceSub, reduceIte, Nat.reduceEqDiff, Nat.reduceLT, reduceCtorEq, Nat.reduceMul, Nat.reduceBEq, Int.reduceEq, if_true, if_false, eq_self, ne_eq, env_bT, T_62, P31_eq, Redir.pv_eq, P154_eq, Cmd.pv_eq, P32_eq, Word.pv_eq, GValue.pv_eq, P22_eq, Var.pv_eq, P52_eq, GEnv.pv_eq, ownT_62]
    refine AW.ret ?_
    cases h
    show finish _ _ _ _ _ = _
    first | rfl | (simp [finish, resOf, renArgs, toPV, selObjs, sl])
  · replace h := bif_f hb5 h
    refine AW.skip ?_
    refine AW.seq ?_
    replace h := Option.bind_eq_some_iff.1 h; obtain ⟨s6, q7, h⟩ := h
    have f8 := catO_f q7
    try simp only [List.length_cons, List.length_nil, Nat.zero_add, Nat.reduceAdd, Nat.reduceLeDiff, Nat.add_zero, Nat.reduceMul] at f8
    replace h := Option.bind_eq_some_iff.1 h; obtain ⟨s9, q10, h⟩ := h
    have f11 := catO_f q10
    try simp only [List.length_cons, List.length_nil, Nat.zero_add, Nat.reduceAdd, Nat.reduceLeDiff, Nat.add_zero, Nat.reduceMul] at f11
    refine AW.reg hS [(4, .ref 2 0), (5, .pv (.int .i64 0))] [.var [.pv (.str a1.text_), .pv (.str a1.marks_)], .var [.pv (.str b2.text_), .pv (.str b2.marks_)], .var [.pv (.str s6), .pv (.str s9)]] ?_ ?_
    · simp -implicitDefEqProofs only [RUNS, qindex, Nat.reduceAdd, Nat.reduceLeDiff, Nat.reduceSub, reduceIte, Nat.reduceEqDiff, Nat.reduceLT, reduceCtorEq, Nat.reduceMul, Nat.reduceBEq, Int.reduceEq, if_true, if_false, eq_self, ne_eq, env_bT, T_9, T_62, P31_eq, Redir.pv_eq, P154_eq, Cmd.pv_eq, P32_eq, Word.pv_eq, GValue.pv_eq, P22_eq, Var.pv_eq, P52_eq, GEnv.pv_eq, eqT_9, f8.1, f8.2, f11.1, f11.2, ownT_62]
    refine AW.ret ?_
    cases h
    show finish _ _ _ _ _ = _
    first | rfl | (simp [finish, resOf, renArgs, toPV, selObjs, sl])

set_option maxHeartbeats 4000000 in
theorem g_F21 {O : Orc} (hS : Sound env O) (hpf : O.pf = pfn) (c_F40 : C_F40 O) (a1 : List GValue) (b2 : List GValue) (r3 : List GValue) (r4 : Int) (h : F21 a1 b2 = some (r3, r4)) : Good env 21 [.pv (.slice (List.map GValue.pv a1)), .pv (.slice (List.map GValue.pv b2))] [] [.pv (.slice (List.map GValue.pv r3)), .pv (.int .i64 r4)] [] := by
  have pf_40 : O.pf 40 = true := by rw [hpf]; rfl
  refine Good.start (fn := Tryd.f21) (N := 62) fn_21 rfl rfl (by simp) [] _ rfl rfl ?_
  rw [F21] at h
  refine AW.seq ?_
  refine AW.reg hS [(0, .pv (.slice (List.map GValue.pv a1))), (1, .pv (.slice (List.map GValue.pv b2)))] [] ?_ ?_
  · simp -implicitDefEqProofs only [RUNS, qindex, Nat.reduceAdd, Nat.reduceLeDiff, Nat.reduceSub, reduceIte, Nat.reduceEqDiff, Nat.reduceLT, reduceCtorEq, Nat.reduceMul, Nat.reduceBEq, Int.reduceEq, if_true, if_false, eq_self, ne_eq, env_bT, P31_eq, Redir.pv_eq, P154_eq, Cmd.pv_eq, P32_eq, Word.pv_eq, GValue.pv_eq, P22_eq, Var.pv_eq, P52_eq, GEnv.pv_eq]
  refine AW.seq ?_
  refine AW.reg hS [(0, .pv (.slice (List.map GValue.pv a1))), (1, .pv (.slice (List.map GValue.pv b2))), (6, .pv (.int .i64 (imax (a1.length : Int) (b2.length : Int))))] [] ?_ ?_
  · simp -implicitDefEqProofs only [RUNS, qindex, Nat.reduceAdd, Nat.reduceLeDiff, Nat.reduceSub, reduceIte, Nat.reduceEqDiff, Nat.reduceLT, reduceCtorEq, Nat.reduceMul, Nat.reduceBEq, Int.reduceEq, if_true, if_false, eq_self, ne_eq, env_bT, T_3, T_45, T_62, P31_eq, Redir.pv_eq, P154_eq, Cmd.pv_eq, P32_eq, Word.pv_eq, GValue.pv_eq, P22_eq, Var.pv_eq, P52_eq, GEnv.pv_eq]
  refine AW.seq ?_
  refine AW.seq ?_
  refine AW.reg hS [(0, .pv (.slice (List.map GValue.pv a1))), (1, .pv (.slice (List.map GValue.pv b2))), (6, .pv (.int .i64 (imax (a1.length : Int) (b2.length : Int)))), (28, .pv (.bool (!decide ((a1.length : Int) = (b2.length : Int)) && !decide (imin (a1.length : Int) (b2.length : Int) = 1))))] [] ?_ ?_
  · clear h
    (simp -implicitDefEqProofs only [RUNS, qindex, Nat.reduceAdd, Nat.reduceLeDiff, Nat.reduceSub, reduceIte, Nat.reduceEqDiff, Nat.reduceLT, reduceCtorEq, Nat.reduceMul, Nat.reduceBEq, Int.reduceEq, if_true, if_false, eq_self, ne_eq, env_bT, T_3, T_45, T_62, P31_eq, Redir.pv_eq, P154_eq, Cmd.pv_eq, P32_eq, Word.pv_eq, GValue.pv_eq, P22_eq, Var.pv_eq, P52_eq, GEnv.pv_eq, eqT_3]); repeat' (split <;> rename_i hb <;> (try simp only [HBS, ge_iff_le, gt_iff_lt] at hb) <;> simp -implicitDefEqProofs only [RUNS, qindex, Nat.reduceAdd, Nat.reduceLeDiff, Nat.reduceSub, reduceIte, Nat.reduceEqDiff, Nat.reduceLT, reduceCtorEq, Nat.reduceMul, Nat.reduceBEq, Int.reduceEq, if_true, if_false, eq_self, ne_eq, env_bT, T_3, T_45, T_62, P31_eq, Redir.pv_eq, P154_eq, Cmd.pv_eq, P32_eq, Word.pv_eq, GValue.pv_eq, P22_eq, Var.pv_eq, P52_eq, GEnv.pv_eq, eqT_3, *, decide_true, decide_false, Decidable.not_not, not_false_eq_true, not_true_eq_false])
    all_goals (first | (simp only [BOOLS]; done) | (simp [*]; done) | ((try simp only [CLOS, beq_iff_eq, bne_iff_ne, ne_eq] at *) <;> omega) | (simp_all; done) | (simp_all <;> omega))
  refine AW.cond (b := (!decide ((a1.length : Int) = (b2.length : Int)) && !decide (imin (a1.length : Int) (b2.length : Int) = 1))) rfl (fun hb5 => ?_) (fun hb5 => ?_)
  · replace h := bif_t hb5 h
    refine AW.seq ?_
    refine AW.reg hS [(4, .nils), (5, .pv (.int .i64 1))] [] ?_ ?_
    · simp -implicitDefEqProofs only [RUNS, qindex, Nat.reduceAdd, Nat.reduceLeDiff, Nat.reduceSub, reduceIte, Nat.reduceEqDiff, Nat.reduceLT, reduceCtorEq, Nat.reduceMul, Nat.reduceBEq, Int.reduceEq, if_true, if_false, eq_self, ne_eq, env_bT, P31_eq, Redir.pv_eq, P154_eq, Cmd.pv_eq, P32_eq, Word.pv_eq, GValue.pv_eq, P22_eq, Var.pv_eq, P52_eq, GEnv.pv_eq]
    refine AW.ret ?_
    cases h
    show finish _ _ _ _ _ = _
    first | rfl | (simp [finish, resOf, renArgs, toPV, selObjs, sl])
  · replace h := bif_f hb5 h
    refine AW.skip ?_
    refine AW.seq ?_
    refine AW.reg hS [(0, .pv (.slice (List.map GValue.pv a1))), (1, .pv (.slice (List.map GValue.pv b2))), (6, .pv (.int .i64 (imax (a1.length : Int) (b2.length : Int)))), (7, .nils)] [] ?_ ?_
    · simp -implicitDefEqProofs only [RUNS, qindex, Nat.reduceAdd, Nat.reduceLeDiff, Nat.reduceSub, reduceIte, Nat.reduceEqDiff, Nat.reduceLT, reduceCtorEq, Nat.reduceMul, Nat.reduceBEq, Int.reduceEq, if_true, if_false, eq_self, ne_eq, env_bT, P31_eq, Redir.pv_eq, P154_eq, Cmd.pv_eq, P32_eq, Word.pv_eq, GValue.pv_eq, P22_eq, Var.pv_eq, P52_eq, GEnv.pv_eq]
    refine AW.weak (Weak.own 7 62 2 (by decide) rfl) ?_
    refine AW.weak (Weak.slots (L := [(0, .pv (.slice (List.map GValue.pv a1))), (1, .pv (.slice (List.map GValue.pv b2))), (6, .pv (.int .i64 (imax (a1.length : Int) (b2.length : Int)))), (7, .vec 0 (List.length ([] : List GValue)))]) ⟨rfl, rfl, rfl, rfl, trivial⟩) ?_
    refine AW.seq ?_
    refine AW.seq ?_
    refine AW.reg hS [(0, .pv (.slice (List.map GValue.pv a1))), (1, .pv (.slice (List.map GValue.pv b2))), (7, .vec 0 (List.length ([] : List GValue))), (29, .pv (.int .i64 (imax (a1.length : Int) (b2.length : Int)))), (30, .pv (.int .i64 0))] [.row 62 2 (List.map GValue.pv ([] : List GValue)) true] ?_ ?_
    · simp -implicitDefEqProofs only [RUNS, qindex, Nat.reduceAdd, Nat.reduceLeDiff, Nat.reduceSub, reduceIte, Nat.reduceEqDiff, Nat.reduceLT, reduceCtorEq, Nat.reduceMul, Nat.reduceBEq, Int.reduceEq, if_true, if_false, eq_self, ne_eq, env_bT, P31_eq, Redir.pv_eq, P154_eq, Cmd.pv_eq, P32_eq, Word.pv_eq, GValue.pv_eq, P22_eq, Var.pv_eq, P52_eq, GEnv.pv_eq]
    refine AW.block ?_
    refine AW.weak (Weak.slots (L := [(0, .pv (.slice (List.map GValue.pv a1))), (1, .pv (.slice (List.map GValue.pv b2))), (7, .vec 0 (List.length ([] : List GValue))), (29, .pv (.int .i64 (imax (a1.length : Int) (b2.length : Int)))), (30, .pv (.int .i64 0))]) ⟨rfl, rfl, rfl, rfl, rfl, trivial⟩) ?_
    refine AW.loopI (α := Nat × Int × (List GValue)) (fun (_, i6, l7) => ⟨sl [(0, .pv (.slice (List.map GValue.pv a1))), (1, .pv (.slice (List.map GValue.pv b2))), (7, .vec 0 (List.length l7)), (29, .pv (.int .i64 (imax (a1.length : Int) (b2.length : Int)))), (30, .pv (.int .i64 i6))], 62, [.row 62 2 (List.map GValue.pv l7) true]⟩) (fun x => iter (F21_b1 a1 b2) x.1 x.2 = some (r3, r4)) (fun x => x.1) (BIG, (0, ([] : List GValue))) h ?_
    clear h
    intro ⟨n26, i6, l7⟩ h
    replace h := iter_some h; obtain ⟨m10, rfl, h⟩ := h
    rw [F21_b1] at h
    try dsimp only at h
    show AW _ _ _ _ ⟨sl [(0, .pv (.slice (List.map GValue.pv a1))), (1, .pv (.slice (List.map GValue.pv b2))), (7, .vec 0 (List.length l7)), (29, .pv (.int .i64 (imax (a1.length : Int) (b2.length : Int)))), (30, .pv (.int .i64 i6))], 62, [.row 62 2 (List.map GValue.pv l7) true]⟩
    refine AW.seq ?_
    refine AW.reg hS [(0, .pv (.slice (List.map GValue.pv a1))), (1, .pv (.slice (List.map GValue.pv b2))), (7, .vec 0 (List.length l7)), (29, .pv (.int .i64 (imax (a1.length : Int) (b2.length : Int)))), (30, .pv (.int .i64 i6)), (31, .pv (.bool (decide (i6 < imax (a1.length : Int) (b2.length : Int)))))] [.row 62 2 (List.map GValue.pv l7) true] ?_ ?_
    · simp -implicitDefEqProofs only [RUNS, qindex, Nat.reduceAdd, Nat.reduceLeDiff, Nat.reduceSub, reduceIte, Nat.reduceEqDiff, Nat.reduceLT, reduceCtorEq, Nat.reduceMul, Nat.reduceBEq, Int.reduceEq, if_true, if_false, eq_self, ne_eq, env_bT, T_3, P31_eq, Redir.pv_eq, P154_eq, Cmd.pv_eq, P32_eq, Word.pv_eq, GValue.pv_eq, P22_eq, Var.pv_eq, P52_eq, GEnv.pv_eq, eqT_3]
    refine AW.seq ?_
    refine AW.cond (b := decide (i6 < imax (a1.length : Int) (b2.length : Int))) rfl (fun hb11 => ?_) (fun hb11 => ?_)
    · replace h := bif_t hb11 h
      refine AW.skip ?_
      refine AW.seq ?_
      refine AW.block ?_
      refine AW.seq ?_
      refine AW.reg hS [(0, .pv (.slice (List.map GValue.pv a1))), (1, .pv (.slice (List.map GValue.pv b2))), (7, .vec 0 (List.length l7)), (8, .pv (.int .i64 i6)), (29, .pv (.int .i64 (imax (a1.length : Int) (b2.length : Int)))), (30, .pv (.int .i64 i6))] [.row 62 2 (List.map GValue.pv l7) true] ?_ ?_
      · simp -implicitDefEqProofs only [RUNS, qindex, Nat.reduceAdd, Nat.reduceLeDiff, Nat.reduceSub, reduceIte, Nat.reduceEqDiff, Nat.reduceLT, reduceCtorEq, Nat.reduceMul, Nat.reduceBEq, Int.reduceEq, if_true, if_false, eq_self, ne_eq, env_bT, P31_eq, Redir.pv_eq, P154_eq, Cmd.pv_eq, P32_eq, Word.pv_eq, GValue.pv_eq, P22_eq, Var.pv_eq, P52_eq, GEnv.pv_eq]
      refine AW.seq ?_
      replace h := Option.bind_eq_some_iff.1 h; obtain ⟨u12, q13, h⟩ := h
      have f14 := lidx_f q13
      replace h := Option.bind_eq_some_iff.1 h; obtain ⟨u15, q16, h⟩ := h
      have f17 := lidx_f q16
      replace h := Option.bind_eq_some_iff.1 h; obtain ⟨⟨r18, r19⟩, q20, h⟩ := h
      dsimp only at h
      have f21 := c_F40 u12 u15 r18 r19 q20
      try dsimp only at f21
      refine AW.dregB mixed hS [(40, none), (48, none)] rfl (hpf ▸ (by kernel_rfl : orderOKB pfn [(40, none), (48, none)] _ = true)) [(0, .pv (.slice (List.map GValue.pv a1))), (1, .pv (.slice (List.map GValue.pv b2))), (7, .vec 0 (List.length l7)), (9, .ref 1 0), (10, .pv (.int .i64 r19)), (29, .pv (.int .i64 (imax (a1.length : Int) (b2.length : Int)))), (30, .pv (.int .i64 i6))] [.row 62 2 (List.map GValue.pv l7) true, .var [.pv (.str r18.text_), .pv (.str r18.marks_)]] ?_ ?_
      · simp -implicitDefEqProofs only [RUNS, qindex, Nat.reduceAdd, Nat.reduceLeDiff, Nat.reduceSub, reduceIte, Nat.reduceEqDiff, Nat.reduceLT, reduceCtorEq, Nat.reduceMul, Nat.reduceBEq, Int.reduceEq, if_true, if_false, eq_self, ne_eq, env_bT, T_3, T_45, T_62, P31_eq, Redir.pv_eq, P154_eq, Cmd.pv_eq, P32_eq, Word.pv_eq, GValue.pv_eq, P22_eq, Var.pv_eq, P52_eq, GEnv.pv_eq, eqT_3, f14.1, f14.2.1, f17.1, f17.2.1, pf_40, f21]
      refine AW.seq ?_
      refine AW.seq ?_
      refine AW.reg hS [(0, .pv (.slice (List.map GValue.pv a1))), (1, .pv (.slice (List.map GValue.pv b2))), (7, .vec 0 (List.length l7)), (9, .ref 1 0), (10, .pv (.int .i64 r19)), (29, .pv (.int .i64 (imax (a1.length : Int) (b2.length : Int)))), (30, .pv (.int .i64 i6)), (54, .pv (.bool (!decide (r19 = 0))))] [.row 62 2 (List.map GValue.pv l7) true, .var [.pv (.str r18.text_), .pv (.str r18.marks_)]] ?_ ?_
      · simp -implicitDefEqProofs only [RUNS, qindex, Nat.reduceAdd, Nat.reduceLeDiff, Nat.reduceSub, reduceIte, Nat.reduceEqDiff, Nat.reduceLT, reduceCtorEq, Nat.reduceMul, Nat.reduceBEq, Int.reduceEq, if_true, if_false, eq_self, ne_eq, env_bT, T_25, P31_eq, Redir.pv_eq, P154_eq, Cmd.pv_eq, P32_eq, Word.pv_eq, GValue.pv_eq, P22_eq, Var.pv_eq, P52_eq, GEnv.pv_eq, eqT_25]
      refine AW.cond (b := !decide (r19 = 0)) rfl (fun hb22 => ?_) (fun hb22 => ?_)
      · replace h := bif_t hb22 h
        refine AW.seq ?_
        refine AW.reg hS [(4, .nils), (5, .pv (.int .i64 r19))] [.row 62 2 (List.map GValue.pv l7) true, .var [.pv (.str r18.text_), .pv (.str r18.marks_)]] ?_ ?_
        · simp -implicitDefEqProofs only [RUNS, qindex, Nat.reduceAdd, Nat.reduceLeDiff, Nat.reduceSub, reduceIte, Nat.reduceEqDiff, Nat.reduceLT, reduceCtorEq, Nat.reduceMul, Nat.reduceBEq, Int.reduceEq, if_true, if_false, eq_self, ne_eq, env_bT, P31_eq, Redir.pv_eq, P154_eq, Cmd.pv_eq, P32_eq, Word.pv_eq, GValue.pv_eq, P22_eq, Var.pv_eq, P52_eq, GEnv.pv_eq]
        refine AW.ret ?_
        cases h
        show finish _ _ _ _ _ = _
        first | rfl | (simp [finish, resOf, renArgs, toPV, selObjs, sl])
      · replace h := bif_f hb22 h
        refine AW.skip ?_
        replace h := Option.bind_eq_some_iff.1 h; obtain ⟨out23, q24, h⟩ := h
        have f25 := appO_f q24
        try simp only [List.length_cons, List.length_nil, Nat.zero_add, Nat.reduceAdd, Nat.reduceLeDiff, Nat.add_zero, Nat.reduceMul] at f25
        refine AW.reg hS [(0, .pv (.slice (List.map GValue.pv a1))), (1, .pv (.slice (List.map GValue.pv b2))), (7, .vec 0 (List.length out23)), (29, .pv (.int .i64 (imax (a1.length : Int) (b2.length : Int)))), (30, .pv (.int .i64 i6))] [.row 62 2 (List.map GValue.pv out23) true, .var [.pv (.str r18.text_), .pv (.str r18.marks_)]] ?_ ?_
        · simp -implicitDefEqProofs only [RUNS, qindex, Nat.reduceAdd, Nat.reduceLeDiff, Nat.reduceSub, reduceIte, Nat.reduceEqDiff, Nat.reduceLT, reduceCtorEq, Nat.reduceMul, Nat.reduceBEq, Int.reduceEq, if_true, if_false, eq_self, ne_eq, env_bT, T_45, T_62, P31_eq, Redir.pv_eq, P154_eq, Cmd.pv_eq, P32_eq, Word.pv_eq, GValue.pv_eq, P22_eq, Var.pv_eq, P52_eq, GEnv.pv_eq, ownT_45, f25.1, f25.2, GValue.all] <;> (try simp only [List.length_take, List.length_drop, List.length_map])
        clear f25
        refine AW.reg hS [(0, .pv (.slice (List.map GValue.pv a1))), (1, .pv (.slice (List.map GValue.pv b2))), (7, .vec 0 (List.length out23)), (29, .pv (.int .i64 (imax (a1.length : Int) (b2.length : Int)))), (30, .pv (.int .i64 (IntKind.wrap .i64 (i6 + 1))))] [.row 62 2 (List.map GValue.pv out23) true, .var [.pv (.str r18.text_), .pv (.str r18.marks_)]] ?_ ?_
        · simp -implicitDefEqProofs only [RUNS, qindex, Nat.reduceAdd, Nat.reduceLeDiff, Nat.reduceSub, reduceIte, Nat.reduceEqDiff, Nat.reduceLT, reduceCtorEq, Nat.reduceMul, Nat.reduceBEq, Int.reduceEq, if_true, if_false, eq_self, ne_eq, env_bT, T_3, P31_eq, Redir.pv_eq, P154_eq, Cmd.pv_eq, P32_eq, Word.pv_eq, GValue.pv_eq, P22_eq, Var.pv_eq, P52_eq, GEnv.pv_eq, eqT_3]
        exact ⟨(m10, (IntKind.wrap .i64 (i6 + 1), out23)), h, (Weak.norm (m := 1) (Nat.le_of_ble_eq_true rfl) ⟨rfl, rfl, rfl, rfl, rfl, trivial⟩ rfl rfl rfl), Nat.lt_succ_self _⟩
    · replace h := bif_f hb11 h
      refine AW.exit ?_
      refine AW.seq ?_
      refine AW.reg hS [(4, .vec 0 (List.length l7)), (5, .pv (.int .i64 0))] [.row 62 2 (List.map GValue.pv l7) true] ?_ ?_
      · simp -implicitDefEqProofs only [RUNS, qindex, Nat.reduceAdd, Nat.reduceLeDiff, Nat.reduceSub, reduceIte, Nat.reduceEqDiff, Nat.reduceLT, reduceCtorEq, Nat.reduceMul, Nat.reduceBEq, Int.reduceEq, if_true, if_false, eq_self, ne_eq, env_bT, P31_eq, Redir.pv_eq, P154_eq, Cmd.pv_eq, P32_eq, Word.pv_eq, GValue.pv_eq, P22_eq, Var.pv_eq, P52_eq, GEnv.pv_eq]
      refine AW.ret ?_
      cases h
      show finish _ _ _ _ _ = _
      first | rfl | (simp [finish, resOf, renArgs, toPV, selObjs, sl])

set_option maxHeartbeats 4000000 in
theorem g_F23 {O : Orc} (hS : Sound env O) (hpf : O.pf = pfn) (l1 : List GValue) (r2 : List Str) (h : F23 l1 = some r2) : Good env 23 [.pv (.slice (List.map GValue.pv l1))] [] [.pv (.slice (List.map PV.str r2))] [] := by
  refine Good.start (fn := Tryd.f23) (N := 19) fn_23 rfl rfl (by simp) [] _ rfl rfl ?_
  rw [F23] at h
  refine AW.seq ?_
  refine AW.reg hS [(0, .pv (.slice (List.map GValue.pv l1)))] [] ?_ ?_
  · simp -implicitDefEqProofs only [RUNS, qindex, Nat.reduceAdd, Nat.reduceLeDiff, Nat.reduceSub, reduceIte, Nat.reduceEqDiff, Nat.reduceLT, reduceCtorEq, Nat.reduceMul, Nat.reduceBEq, Int.reduceEq, if_true, if_false, eq_self, ne_eq, env_bT, P31_eq, Redir.pv_eq, P154_eq, Cmd.pv_eq, P32_eq, Word.pv_eq, GValue.pv_eq, P22_eq, Var.pv_eq, P52_eq, GEnv.pv_eq]
  refine AW.seq ?_
  refine AW.reg hS [(0, .pv (.slice (List.map GValue.pv l1))), (3, .nils)] [] ?_ ?_
  · simp -implicitDefEqProofs only [RUNS, qindex, Nat.reduceAdd, Nat.reduceLeDiff, Nat.reduceSub, reduceIte, Nat.reduceEqDiff, Nat.reduceLT, reduceCtorEq, Nat.reduceMul, Nat.reduceBEq, Int.reduceEq, if_true, if_false, eq_self, ne_eq, env_bT, P31_eq, Redir.pv_eq, P154_eq, Cmd.pv_eq, P32_eq, Word.pv_eq, GValue.pv_eq, P22_eq, Var.pv_eq, P52_eq, GEnv.pv_eq]
  refine AW.weak (Weak.own 3 9 1 (by decide) rfl) ?_
  refine AW.weak (Weak.slots (L := [(0, .pv (.slice (List.map GValue.pv l1))), (3, .vec 0 (List.length ([] : List Str)))]) ⟨rfl, rfl, trivial⟩) ?_
  refine AW.seq ?_
  refine AW.seq ?_
  refine AW.reg hS [(3, .vec 0 (List.length ([] : List Str))), (6, .pv (.slice (List.map GValue.pv l1))), (7, .pv (.int .i64 (l1.length : Int))), (8, .pv (.int .i64 0))] [.row 9 1 (List.map PV.str ([] : List Str)) true] ?_ ?_
  · simp -implicitDefEqProofs only [RUNS, qindex, Nat.reduceAdd, Nat.reduceLeDiff, Nat.reduceSub, reduceIte, Nat.reduceEqDiff, Nat.reduceLT, reduceCtorEq, Nat.reduceMul, Nat.reduceBEq, Int.reduceEq, if_true, if_false, eq_self, ne_eq, env_bT, T_45, T_62, P31_eq, Redir.pv_eq, P154_eq, Cmd.pv_eq, P32_eq, Word.pv_eq, GValue.pv_eq, P22_eq, Var.pv_eq, P52_eq, GEnv.pv_eq]
  refine AW.block ?_
  refine AW.weak (Weak.slots (L := [(3, .vec 0 (List.length ([] : List Str))), (6, .pv (.slice (List.map GValue.pv l1))), (7, .pv (.int .i64 (l1.length : Int))), (8, .pv (.int .i64 0))]) ⟨rfl, rfl, rfl, rfl, trivial⟩) ?_
  refine AW.loopI (α := Nat × Int × (List Str)) (fun (_, i3, l4) => ⟨sl [(3, .vec 0 (List.length l4)), (6, .pv (.slice (List.map GValue.pv l1))), (7, .pv (.int .i64 (l1.length : Int))), (8, .pv (.int .i64 i3))], 19, [.row 9 1 (List.map PV.str l4) true]⟩) (fun x => iter (F23_b1 l1) x.1 x.2 = some r2) (fun x => x.1) (BIG, (0, ([] : List Str))) h ?_
  clear h
  intro ⟨n15, i3, l4⟩ h
  replace h := iter_some h; obtain ⟨m7, rfl, h⟩ := h
  rw [F23_b1] at h
  try dsimp only at h
  show AW _ _ _ _ ⟨sl [(3, .vec 0 (List.length l4)), (6, .pv (.slice (List.map GValue.pv l1))), (7, .pv (.int .i64 (l1.length : Int))), (8, .pv (.int .i64 i3))], 19, [.row 9 1 (List.map PV.str l4) true]⟩
  refine AW.seq ?_
  refine AW.reg hS [(3, .vec 0 (List.length l4)), (6, .pv (.slice (List.map GValue.pv l1))), (7, .pv (.int .i64 (l1.length : Int))), (8, .pv (.int .i64 i3)), (9, .pv (.bool (decide (i3 < (l1.length : Int)))))] [.row 9 1 (List.map PV.str l4) true] ?_ ?_
  · simp -implicitDefEqProofs only [RUNS, qindex, Nat.reduceAdd, Nat.reduceLeDiff, Nat.reduceSub, reduceIte, Nat.reduceEqDiff, Nat.reduceLT, reduceCtorEq, Nat.reduceMul, Nat.reduceBEq, Int.reduceEq, if_true, if_false, eq_self, ne_eq, env_bT, T_3, P31_eq, Redir.pv_eq, P154_eq, Cmd.pv_eq, P32_eq, Word.pv_eq, GValue.pv_eq, P22_eq, Var.pv_eq, P52_eq, GEnv.pv_eq, eqT_3]
  refine AW.seq ?_
  refine AW.cond (b := decide (i3 < (l1.length : Int))) rfl (fun hb8 => ?_) (fun hb8 => ?_)
  · replace h := bif_t hb8 h
    refine AW.skip ?_
    refine AW.seq ?_
    refine AW.block ?_
    refine AW.seq ?_
    replace h := Option.bind_eq_some_iff.1 h; obtain ⟨u9, q10, h⟩ := h
    have f11 := lidx_f q10
    refine AW.reg hS [(3, .vec 0 (List.length l4)), (5, .ref 1 0), (6, .pv (.slice (List.map GValue.pv l1))), (7, .pv (.int .i64 (l1.length : Int))), (8, .pv (.int .i64 i3))] [.row 9 1 (List.map PV.str l4) true, .var [.pv (.str u9.text_), .pv (.str u9.marks_)]] ?_ ?_
    · simp -implicitDefEqProofs only [RUNS, qindex, Nat.reduceAdd, Nat.reduceLeDiff, Nat.reduceSub, reduceIte, Nat.reduceEqDiff, Nat.reduceLT, reduceCtorEq, Nat.reduceMul, Nat.reduceBEq, Int.reduceEq, if_true, if_false, eq_self, ne_eq, env_bT, T_45, T_62, P31_eq, Redir.pv_eq, P154_eq, Cmd.pv_eq, P32_eq, Word.pv_eq, GValue.pv_eq, P22_eq, Var.pv_eq, P52_eq, GEnv.pv_eq, f11.1, f11.2.1]
    replace h := Option.bind_eq_some_iff.1 h; obtain ⟨out12, q13, h⟩ := h
    have f14 := appO_f q13
    try simp only [List.length_cons, List.length_nil, Nat.zero_add, Nat.reduceAdd, Nat.reduceLeDiff, Nat.add_zero, Nat.reduceMul] at f14
    refine AW.reg hS [(3, .vec 0 (List.length out12)), (6, .pv (.slice (List.map GValue.pv l1))), (7, .pv (.int .i64 (l1.length : Int))), (8, .pv (.int .i64 i3))] [.row 9 1 (List.map PV.str out12) true, .var [.pv (.str u9.text_), .pv (.str u9.marks_)]] ?_ ?_
    · simp -implicitDefEqProofs only [RUNS, qindex, Nat.reduceAdd, Nat.reduceLeDiff, Nat.reduceSub, reduceIte, Nat.reduceEqDiff, Nat.reduceLT, reduceCtorEq, Nat.reduceMul, Nat.reduceBEq, Int.reduceEq, if_true, if_false, eq_self, ne_eq, env_bT, T_9, T_22, T_62, P31_eq, Redir.pv_eq, P154_eq, Cmd.pv_eq, P32_eq, Word.pv_eq, GValue.pv_eq, P22_eq, Var.pv_eq, P52_eq, GEnv.pv_eq, ownT_22, f14.1, f14.2, str_all] <;> (try simp only [List.length_take, List.length_drop, List.length_map])
    clear f14
    refine AW.reg hS [(3, .vec 0 (List.length out12)), (6, .pv (.slice (List.map GValue.pv l1))), (7, .pv (.int .i64 (l1.length : Int))), (8, .pv (.int .i64 (IntKind.wrap .i64 (i3 + 1))))] [.row 9 1 (List.map PV.str out12) true, .var [.pv (.str u9.text_), .pv (.str u9.marks_)]] ?_ ?_
    · simp -implicitDefEqProofs only [RUNS, qindex, Nat.reduceAdd, Nat.reduceLeDiff, Nat.reduceSub, reduceIte, Nat.reduceEqDiff, Nat.reduceLT, reduceCtorEq, Nat.reduceMul, Nat.reduceBEq, Int.reduceEq, if_true, if_false, eq_self, ne_eq, env_bT, T_3, P31_eq, Redir.pv_eq, P154_eq, Cmd.pv_eq, P32_eq, Word.pv_eq, GValue.pv_eq, P22_eq, Var.pv_eq, P52_eq, GEnv.pv_eq, eqT_3]
    exact ⟨(m7, (IntKind.wrap .i64 (i3 + 1), out12)), h, (Weak.norm (m := 1) (Nat.le_of_ble_eq_true rfl) ⟨rfl, rfl, rfl, rfl, trivial⟩ rfl rfl rfl), Nat.lt_succ_self _⟩
  · replace h := bif_f hb8 h
    refine AW.exit ?_
    refine AW.seq ?_
    refine AW.reg hS [(2, .vec 0 (List.length l4))] [.row 9 1 (List.map PV.str l4) true] ?_ ?_
    · simp -implicitDefEqProofs only [RUNS, qindex, Nat.reduceAdd, Nat.reduceLeDiff, Nat.reduceSub, reduceIte, Nat.reduceEqDiff, Nat.reduceLT, reduceCtorEq, Nat.reduceMul, Nat.reduceBEq, Int.reduceEq, if_true, if_false, eq_self, ne_eq, env_bT, P31_eq, Redir.pv_eq, P154_eq, Cmd.pv_eq, P32_eq, Word.pv_eq, GValue.pv_eq, P22_eq, Var.pv_eq, P52_eq, GEnv.pv_eq]
    refine AW.ret ?_
    cases h
    show finish _ _ _ _ _ = _
    first | rfl | (simp [finish, resOf, renArgs, toPV, selObjs, sl])

set_option maxHeartbeats 4000000 in
theorem g_F9 {O : Orc} (hS : Sound env O) (hpf : O.pf = pfn) (c_F22 : C_F22 O) (c_F21 : C_F21 O) (c_F23 : C_F23 O) (a1 : List Str) (b2 : List Str) (r3 : List Str) (r4 : Int) (h : F9 a1 b2 = some (r3, r4)) : Good env 9 [.pv (.slice (List.map PV.str a1)), .pv (.slice (List.map PV.str b2))] [] [.pv (.slice (List.map PV.str r3)), .pv (.int .i64 r4)] [] := by
  have pf_21 : O.pf 21 = true := by rw [hpf]; rfl
  have pf_22 : O.pf 22 = true := by rw [hpf]; rfl
  have pf_23 : O.pf 23 = true := by rw [hpf]; rfl
  refine Good.start (fn := Tryd.f9) (N := 21) fn_9 rfl rfl (by simp) [] _ rfl rfl ?_
  rw [F9] at h
  refine AW.seq ?_
  refine AW.reg hS [(0, .pv (.slice (List.map PV.str a1))), (1, .pv (.slice (List.map PV.str b2)))] [] ?_ ?_
  · simp -implicitDefEqProofs only [RUNS, qindex, Nat.reduceAdd, Nat.reduceLeDiff, Nat.reduceSub, reduceIte, Nat.reduceEqDiff, Nat.reduceLT, reduceCtorEq, Nat.reduceMul, Nat.reduceBEq, Int.reduceEq, if_true, if_false, eq_self, ne_eq, env_bT, P31_eq, Redir.pv_eq, P154_eq, Cmd.pv_eq, P32_eq, Word.pv_eq, GValue.pv_eq, P22_eq, Var.pv_eq, P52_eq, GEnv.pv_eq]
  refine AW.seq ?_
  replace h := Option.bind_eq_some_iff.1 h; obtain ⟨r5, q6, h⟩ := h
  have f7 := c_F22 a1 r5 q6
  try dsimp only at f7
  replace h := Option.bind_eq_some_iff.1 h; obtain ⟨r8, q9, h⟩ := h
  have f10 := c_F22 b2 r8 q9
  try dsimp only at f10
  replace h := Option.bind_eq_some_iff.1 h; obtain ⟨⟨r11, r12⟩, q13, h⟩ := h
  dsimp only at h
  have f14 := c_F21 r5 r8 r11 r12 q13
  try dsimp only at f14
  refine AW.reg hS [(6, .pv (.slice (List.map GValue.pv r11))), (7, .pv (.int .i64 r12))] [] ?_ ?_
  · simp -implicitDefEqProofs only [RUNS, qindex, Nat.reduceAdd, Nat.reduceLeDiff, Nat.reduceSub, reduceIte, Nat.reduceEqDiff, Nat.reduceLT, reduceCtorEq, Nat.reduceMul, Nat.reduceBEq, Int.reduceEq, if_true, if_false, eq_self, ne_eq, env_bT, T_9, T_22, T_45, T_62, P31_eq, Redir.pv_eq, P154_eq, Cmd.pv_eq, P32_eq, Word.pv_eq, GValue.pv_eq, P22_eq, Var.pv_eq, P52_eq, GEnv.pv_eq, pf_22, f7, f10, pf_21, f14]
  refine AW.seq ?_
  refine AW.seq ?_
  refine AW.reg hS [(6, .pv (.slice (List.map GValue.pv r11))), (7, .pv (.int .i64 r12)), (17, .pv (.bool (!decide (r12 = 0))))] [] ?_ ?_
  · simp -implicitDefEqProofs only [RUNS, qindex, Nat.reduceAdd, Nat.reduceLeDiff, Nat.reduceSub, reduceIte, Nat.reduceEqDiff, Nat.reduceLT, reduceCtorEq, Nat.reduceMul, Nat.reduceBEq, Int.reduceEq, if_true, if_false, eq_self, ne_eq, env_bT, T_25, P31_eq, Redir.pv_eq, P154_eq, Cmd.pv_eq, P32_eq, Word.pv_eq, GValue.pv_eq, P22_eq, Var.pv_eq, P52_eq, GEnv.pv_eq, eqT_25]
  refine AW.cond (b := !decide (r12 = 0)) rfl (fun hb15 => ?_) (fun hb15 => ?_)
  · replace h := bif_t hb15 h
    refine AW.seq ?_
    refine AW.reg hS [(4, .nils), (5, .pv (.int .i64 r12))] [] ?_ ?_
    · simp -implicitDefEqProofs only [RUNS, qindex, Nat.reduceAdd, Nat.reduceLeDiff, Nat.reduceSub, reduceIte, Nat.reduceEqDiff, Nat.reduceLT, reduceCtorEq, Nat.reduceMul, Nat.reduceBEq, Int.reduceEq, if_true, if_false, eq_self, ne_eq, env_bT, P31_eq, Redir.pv_eq, P154_eq, Cmd.pv_eq, P32_eq, Word.pv_eq, GValue.pv_eq, P22_eq, Var.pv_eq, P52_eq, GEnv.pv_eq]
    refine AW.ret ?_
    cases h
    show finish _ _ _ _ _ = _
    first | rfl | (simp [finish, resOf, renArgs, toPV, selObjs, sl])
  · replace h := bif_f hb15 h
    refine AW.skip ?_
    refine AW.seq ?_
    replace h := Option.bind_eq_some_iff.1 h; obtain ⟨r16, q17, h⟩ := h
    have f18 := c_F23 r11 r16 q17
    try dsimp only at f18
    refine AW.reg hS [(4, .pv (.slice (List.map PV.str r16))), (5, .pv (.int .i64 0))] [] ?_ ?_
    · simp -implicitDefEqProofs only [RUNS, qindex, Nat.reduceAdd, Nat.reduceLeDiff, Nat.reduceSub, reduceIte, Nat.reduceEqDiff, Nat.reduceLT, reduceCtorEq, Nat.reduceMul, Nat.reduceBEq, Int.reduceEq, if_true, if_false, eq_self, ne_eq, env_bT, T_45, T_62, P31_eq, Redir.pv_eq, P154_eq, Cmd.pv_eq, P32_eq, Word.pv_eq, GValue.pv_eq, P22_eq, Var.pv_eq, P52_eq, GEnv.pv_eq, pf_23, f18]
    refine AW.ret ?_
    cases h
    show finish _ _ _ _ _ = _
    first | rfl | (simp [finish, resOf, renArgs, toPV, selObjs, sl])

set_option maxHeartbeats 4000000 in
theorem g_F20 {O : Orc} (hS : Sound env O) (hpf : O.pf = pfn)  (r1 : List GEnv) (h : F20 = some r1) : Good env 20 [] [] [.pv (.slice (List.map GEnv.pv r1))] [] := by
  refine Good.start (fn := Tryd.f20) (N := 8) fn_20 rfl rfl (by simp) [] _ rfl rfl ?_
  rw [F20] at h
  refine AW.seq ?_
  refine AW.reg hS [] [] ?_ ?_
  · simp -implicitDefEqProofs only [RUNS, qindex, Nat.reduceAdd, Nat.reduceLeDiff, Nat.reduceSub, reduceIte, Nat.reduceEqDiff, Nat.reduceLT, reduceCtorEq, Nat.reduceMul, Nat.reduceBEq, Int.reduceEq, if_true, if_false, eq_self, ne_eq, env_bT, P31_eq, Redir.pv_eq, P154_eq, Cmd.pv_eq, P32_eq, Word.pv_eq, GValue.pv_eq, P22_eq, Var.pv_eq, P52_eq, GEnv.pv_eq]
  refine AW.seq ?_
  refine AW.reg hS [(0, .full (List.map GEnv.pv [GEnv.mk 1 4 [Var.mk 2 [120] [[49], [50]], Var.mk 3 [42] [[97], [98], [99]]]]))] [] ?_ ?_
  · simp -implicitDefEqProofs only [RUNS, qindex, Nat.reduceAdd, Nat.reduceLeDiff, Nat.reduceSub, reduceIte, Nat.reduceEqDiff, Nat.reduceLT, reduceCtorEq, Nat.reduceMul, Nat.reduceBEq, Int.reduceEq, if_true, if_false, eq_self, ne_eq, env_bT, T_9, T_22, T_30, T_52, T_54, T_56, P31_eq, Redir.pv_eq, P154_eq, Cmd.pv_eq, P32_eq, Word.pv_eq, GValue.pv_eq, P22_eq, Var.pv_eq, P52_eq, GEnv.pv_eq, ownT_22, ownT_56, ownT_52, ownT_54, ownT_30]
  refine AW.ret ?_
  cases h
  show finish _ _ _ _ _ = _
  first | rfl | (simp [finish, resOf, renArgs, toPV, selObjs, sl])

set_option maxHeartbeats 4000000 in
theorem g_F24 {O : Orc} (hS : Sound env O) (hpf : O.pf = pfn) (c_L_Atoi : C_L_Atoi O) (c_L_Itoa : C_L_Itoa O) (s1 : Str) (r2 : Int) (r3 : Bool) (h : F24 s1 = some (r2, r3)) : Good env 24 [.pv (.str s1)] [] [.pv (.int .i64 r2), .pv (.bool r3)] [] := by
  have pf_41 : O.pf 41 = true := by rw [hpf]; rfl
  have pf_42 : O.pf 42 = true := by rw [hpf]; rfl
  refine Good.start (fn := Tryd.f24) (N := 28) fn_24 rfl rfl (by simp) [] _ rfl rfl ?_
  rw [F24] at h
  refine AW.seq ?_
  refine AW.reg hS [(0, .pv (.str s1))] [] ?_ ?_
  · simp -implicitDefEqProofs only [RUNS, qindex, Nat.reduceAdd, Nat.reduceLeDiff, Nat.reduceSub, reduceIte, Nat.reduceEqDiff, Nat.reduceLT, reduceCtorEq, Nat.reduceMul, Nat.reduceBEq, Int.reduceEq, if_true, if_false, eq_self, ne_eq, env_bT, P31_eq, Redir.pv_eq, P154_eq, Cmd.pv_eq, P32_eq, Word.pv_eq, GValue.pv_eq, P22_eq, Var.pv_eq, P52_eq, GEnv.pv_eq]
  refine AW.seq ?_
  replace h := Option.bind_eq_some_iff.1 h; obtain ⟨⟨n4, bad5⟩, q6, h⟩ := h
  dsimp only at h
  have f7 := c_L_Atoi s1 n4 bad5 q6
  try dsimp only at f7
  refine AW.reg hS [(0, .pv (.str s1)), (4, .pv (.int .i64 n4)), (5, .pv ((bif bad5 then PV.ifc else PV.nil)))] [] ?_ ?_
  · simp -implicitDefEqProofs only [RUNS, qindex, Nat.reduceAdd, Nat.reduceLeDiff, Nat.reduceSub, reduceIte, Nat.reduceEqDiff, Nat.reduceLT, reduceCtorEq, Nat.reduceMul, Nat.reduceBEq, Int.reduceEq, if_true, if_false, eq_self, ne_eq, env_bT, T_9, P31_eq, Redir.pv_eq, P154_eq, Cmd.pv_eq, P32_eq, Word.pv_eq, GValue.pv_eq, P22_eq, Var.pv_eq, P52_eq, GEnv.pv_eq, pf_41, f7]
  refine AW.seq ?_
  replace h := Option.bind_eq_some_iff.1 h; obtain ⟨s8, q9, h⟩ := h
  have f10 := fun hg => c_L_Itoa n4 s8 (guardO_t q9 hg)
  try dsimp only at f10
  refine AW.reg hS [(2, .pv (.int .i64 n4)), (3, .pv (.bool (((!bad5 && decide (1 ≤ n4)) && decide (n4 ≤ 256)) && decide (s8 = s1))))] [] ?_ ?_
  · clear h
    (simp -implicitDefEqProofs only [RUNS, qindex, Nat.reduceAdd, Nat.reduceLeDiff, Nat.reduceSub, reduceIte, Nat.reduceEqDiff, Nat.reduceLT, reduceCtorEq, Nat.reduceMul, Nat.reduceBEq, Int.reduceEq, if_true, if_false, eq_self, ne_eq, env_bT, T_3, T_9, T_71, P31_eq, Redir.pv_eq, P154_eq, Cmd.pv_eq, P32_eq, Word.pv_eq, GValue.pv_eq, P22_eq, Var.pv_eq, P52_eq, GEnv.pv_eq, eqT_71, qnil2_eql T_71, qnil2_neq T_71, eqT_3, pf_42, f10, eqT_9]); repeat' (split <;> rename_i hb <;> (try simp only [HBS, ge_iff_le, gt_iff_lt] at hb) <;> simp -implicitDefEqProofs only [RUNS, qindex, Nat.reduceAdd, Nat.reduceLeDiff, Nat.reduceSub, reduceIte, Nat.reduceEqDiff, Nat.reduceLT, reduceCtorEq, Nat.reduceMul, Nat.reduceBEq, Int.reduceEq, if_true, if_false, eq_self, ne_eq, env_bT, T_3, T_9, T_71, P31_eq, Redir.pv_eq, P154_eq, Cmd.pv_eq, P32_eq, Word.pv_eq, GValue.pv_eq, P22_eq, Var.pv_eq, P52_eq, GEnv.pv_eq, eqT_71, qnil2_eql T_71, qnil2_neq T_71, eqT_3, pf_42, f10, eqT_9, *, decide_true, decide_false, Decidable.not_not, not_false_eq_true, not_true_eq_false])
    all_goals (first | (simp only [BOOLS]; done) | (simp [*]; done) | ((try simp only [CLOS, beq_iff_eq, bne_iff_ne, ne_eq] at *) <;> omega) | (simp_all; done) | (simp_all <;> omega))
  refine AW.ret ?_
  cases h
  show finish _ _ _ _ _ = _
  first | rfl | (simp [finish, resOf, renArgs, toPV, selObjs, sl])

set_option maxHeartbeats 4000000 in
theorem g_F76 {O : Orc} (hS : Sound env O) (hpf : O.pf = pfn) (g1 : GEnv) (x2 : Int) (r3 : Bool) (h : F76 g1 x2 = some r3) : Good env 76 [.pv (.agg [.int .i64 g1.id_, .int .i64 g1.next_, .slice (List.map Var.pv g1.vars_)]), .ref 0 0] [.var [.pv (.int .i64 x2)]] [.pv (.bool r3)] [.var [.pv (.int .i64 x2)]] := by
  refine Good.start (fn := Tryd.f76) (N := 8) fn_76 rfl rfl (by simp) [] _ rfl rfl ?_
  rw [F76] at h
  refine AW.seq ?_
  refine AW.reg hS [(1, .ref 0 0), (2, .ref 1 0)] [.var [.pv (.int .i64 x2)], .var [.pv (.int .i64 g1.id_), .pv (.int .i64 g1.next_), .pv (.slice (List.map Var.pv g1.vars_))]] ?_ ?_
  · simp -implicitDefEqProofs only [RUNS, qindex, Nat.reduceAdd, Nat.reduceLeDiff, Nat.reduceSub, reduceIte, Nat.reduceEqDiff, Nat.reduceLT, reduceCtorEq, Nat.reduceMul, Nat.reduceBEq, Int.reduceEq, if_true, if_false, eq_self, ne_eq, env_bT, T_54, P31_eq, Redir.pv_eq, P154_eq, Cmd.pv_eq, P32_eq, Word.pv_eq, GValue.pv_eq, P22_eq, Var.pv_eq, P52_eq, GEnv.pv_eq]
  refine AW.seq ?_
  refine AW.reg hS [(3, .pv (.bool (decide (g1.id_ = x2))))] [.var [.pv (.int .i64 x2)], .var [.pv (.int .i64 g1.id_), .pv (.int .i64 g1.next_), .pv (.slice (List.map Var.pv g1.vars_))]] ?_ ?_
  · simp -implicitDefEqProofs only [RUNS, qindex, Nat.reduceAdd, Nat.reduceLeDiff, Nat.reduceSub, reduceIte, Nat.reduceEqDiff, Nat.reduceLT, reduceCtorEq, Nat.reduceMul, Nat.reduceBEq, Int.reduceEq, if_true, if_false, eq_self, ne_eq, env_bT, T_3, T_54, P31_eq, Redir.pv_eq, P154_eq, Cmd.pv_eq, P32_eq, Word.pv_eq, GValue.pv_eq, P22_eq, Var.pv_eq, P52_eq, GEnv.pv_eq, eqT_3]
  refine AW.ret ?_
  cases h
  show finish _ _ _ _ _ = _
  first | rfl | (simp [finish, resOf, renArgs, toPV, selObjs, sl])

set_option maxHeartbeats 4000000 in
theorem g_F75 {O : Orc} (hS : Sound env O) (hpf : O.pf = pfn) (c_F76 : C_F76 O) (s1 : List GEnv) (x2 : Int) (r3 : Int) (h : F75 s1 x2 = some r3) : Good env 75 [.pv (.slice (List.map GEnv.pv s1)), .fn 76 [0]] [.var [.pv (.int .i64 x2)]] [.pv (.int .i64 r3)] [.var [.pv (.int .i64 x2)]] := by
  have pf_76 : O.pf 76 = false := by rw [hpf]; rfl
  refine Good.start (fn := Tryd.f75) (N := 19) fn_75 rfl rfl (by simp) [] _ rfl rfl ?_
  rw [F75] at h
  refine AW.seq ?_
  refine AW.reg hS [(0, .pv (.slice (List.map GEnv.pv s1))), (1, .fn 76 [0])] [.var [.pv (.int .i64 x2)]] ?_ ?_
  · simp -implicitDefEqProofs only [RUNS, qindex, Nat.reduceAdd, Nat.reduceLeDiff, Nat.reduceSub, reduceIte, Nat.reduceEqDiff, Nat.reduceLT, reduceCtorEq, Nat.reduceMul, Nat.reduceBEq, Int.reduceEq, if_true, if_false, eq_self, ne_eq, env_bT, P31_eq, Redir.pv_eq, P154_eq, Cmd.pv_eq, P32_eq, Word.pv_eq, GValue.pv_eq, P22_eq, Var.pv_eq, P52_eq, GEnv.pv_eq]
  refine AW.seq ?_
  refine AW.seq ?_
  refine AW.reg hS [(0, .pv (.slice (List.map GEnv.pv s1))), (1, .fn 76 [0]), (7, .pv (.int .i64 (s1.length : Int))), (8, .pv (.int .i64 0))] [.var [.pv (.int .i64 x2)]] ?_ ?_
  · simp -implicitDefEqProofs only [RUNS, qindex, Nat.reduceAdd, Nat.reduceLeDiff, Nat.reduceSub, reduceIte, Nat.reduceEqDiff, Nat.reduceLT, reduceCtorEq, Nat.reduceMul, Nat.reduceBEq, Int.reduceEq, if_true, if_false, eq_self, ne_eq, env_bT, T_30, T_54, P31_eq, Redir.pv_eq, P154_eq, Cmd.pv_eq, P32_eq, Word.pv_eq, GValue.pv_eq, P22_eq, Var.pv_eq, P52_eq, GEnv.pv_eq]
  refine AW.block ?_
  refine AW.weak (Weak.slots (L := [(0, .pv (.slice (List.map GEnv.pv s1))), (1, .fn 76 [0]), (7, .pv (.int .i64 (s1.length : Int))), (8, .pv (.int .i64 0))]) ⟨rfl, rfl, rfl, rfl, trivial⟩) ?_
  refine AW.loopI (α := Nat × Int) (fun (_, i4) => ⟨sl [(0, .pv (.slice (List.map GEnv.pv s1))), (1, .fn 76 [0]), (7, .pv (.int .i64 (s1.length : Int))), (8, .pv (.int .i64 i4))], 19, [.var [.pv (.int .i64 x2)]]⟩) (fun x => iter (F75_b1 s1 x2) x.1 x.2 = some r3) (fun x => x.1) (BIG, 0) h ?_
  clear h
  intro ⟨n17, i4⟩ h
  replace h := iter_some h; obtain ⟨m7, rfl, h⟩ := h
  rw [F75_b1] at h
  try dsimp only at h
  show AW _ _ _ _ ⟨sl [(0, .pv (.slice (List.map GEnv.pv s1))), (1, .fn 76 [0]), (7, .pv (.int .i64 (s1.length : Int))), (8, .pv (.int .i64 i4))], 19, [.var [.pv (.int .i64 x2)]]⟩
  refine AW.seq ?_
  refine AW.reg hS [(0, .pv (.slice (List.map GEnv.pv s1))), (1, .fn 76 [0]), (7, .pv (.int .i64 (s1.length : Int))), (8, .pv (.int .i64 i4)), (9, .pv (.bool (decide (i4 < (s1.length : Int)))))] [.var [.pv (.int .i64 x2)]] ?_ ?_
  · simp -implicitDefEqProofs only [RUNS, qindex, Nat.reduceAdd, Nat.reduceLeDiff, Nat.reduceSub, reduceIte, Nat.reduceEqDiff, Nat.reduceLT, reduceCtorEq, Nat.reduceMul, Nat.reduceBEq, Int.reduceEq, if_true, if_false, eq_self, ne_eq, env_bT, T_3, P31_eq, Redir.pv_eq, P154_eq, Cmd.pv_eq, P32_eq, Word.pv_eq, GValue.pv_eq, P22_eq, Var.pv_eq, P52_eq, GEnv.pv_eq, eqT_3]
  refine AW.seq ?_
  refine AW.cond (b := decide (i4 < (s1.length : Int))) rfl (fun hb8 => ?_) (fun hb8 => ?_)
  · replace h := bif_t hb8 h
    refine AW.skip ?_
    refine AW.seq ?_
    refine AW.block ?_
    refine AW.seq ?_
    refine AW.reg hS [(0, .pv (.slice (List.map GEnv.pv s1))), (1, .fn 76 [0]), (5, .pv (.int .i64 i4)), (7, .pv (.int .i64 (s1.length : Int))), (8, .pv (.int .i64 i4))] [.var [.pv (.int .i64 x2)]] ?_ ?_
    · simp -implicitDefEqProofs only [RUNS, qindex, Nat.reduceAdd, Nat.reduceLeDiff, Nat.reduceSub, reduceIte, Nat.reduceEqDiff, Nat.reduceLT, reduceCtorEq, Nat.reduceMul, Nat.reduceBEq, Int.reduceEq, if_true, if_false, eq_self, ne_eq, env_bT, P31_eq, Redir.pv_eq, P154_eq, Cmd.pv_eq, P32_eq, Word.pv_eq, GValue.pv_eq, P22_eq, Var.pv_eq, P52_eq, GEnv.pv_eq]
    refine AW.seq ?_
    replace h := Option.bind_eq_some_iff.1 h; obtain ⟨u9, q10, h⟩ := h
    have f11 := lidx_f q10
    replace h := Option.bind_eq_some_iff.1 h; obtain ⟨r12, q13, h⟩ := h
    have f14 := c_F76 u9 x2 r12 q13
    try dsimp only at f14
    have e15 : ecall O [.var [.pv (.int .i64 x2)]] 76 [.pv (.agg [.int .i64 u9.id_, .int .i64 u9.next_, .slice (List.map Var.pv u9.vars_)]), .ref 0 0] = some (retAV [.pv (.bool r12)], [.var [.pv (.int .i64 x2)]]) := ecall_eq rfl rfl rfl f14 rfl rfl rfl
    refine AW.reg hS [(0, .pv (.slice (List.map GEnv.pv s1))), (1, .fn 76 [0]), (5, .pv (.int .i64 i4)), (7, .pv (.int .i64 (s1.length : Int))), (8, .pv (.int .i64 i4)), (16, .pv (.bool r12))] [.var [.pv (.int .i64 x2)]] ?_ ?_
    · simp -implicitDefEqProofs only [RUNS, qindex, Nat.reduceAdd, Nat.reduceLeDiff, Nat.reduceSub, reduceIte, Nat.reduceEqDiff, Nat.reduceLT, reduceCtorEq, Nat.reduceMul, Nat.reduceBEq, Int.reduceEq, if_true, if_false, eq_self, ne_eq, env_bT, T_30, T_54, P31_eq, Redir.pv_eq, P154_eq, Cmd.pv_eq, P32_eq, Word.pv_eq, GValue.pv_eq, P22_eq, Var.pv_eq, P52_eq, GEnv.pv_eq, f11.1, f11.2.1, pf_76, e15]
    refine AW.cond (b := r12) rfl (fun hb16 => ?_) (fun hb16 => ?_)
    · replace h := bif_t hb16 h
      refine AW.seq ?_
      refine AW.reg hS [(4, .pv (.int .i64 i4))] [.var [.pv (.int .i64 x2)]] ?_ ?_
      · simp -implicitDefEqProofs only [RUNS, qindex, Nat.reduceAdd, Nat.reduceLeDiff, Nat.reduceSub, reduceIte, Nat.reduceEqDiff, Nat.reduceLT, reduceCtorEq, Nat.reduceMul, Nat.reduceBEq, Int.reduceEq, if_true, if_false, eq_self, ne_eq, env_bT, P31_eq, Redir.pv_eq, P154_eq, Cmd.pv_eq, P32_eq, Word.pv_eq, GValue.pv_eq, P22_eq, Var.pv_eq, P52_eq, GEnv.pv_eq]
      refine AW.ret ?_
      cases h
      show finish _ _ _ _ _ = _
      first | rfl | (simp [finish, resOf, renArgs, toPV, selObjs, sl])
    · replace h := bif_f hb16 h
      refine AW.skip ?_
      refine AW.reg hS [(0, .pv (.slice (List.map GEnv.pv s1))), (1, .fn 76 [0]), (7, .pv (.int .i64 (s1.length : Int))), (8, .pv (.int .i64 (IntKind.wrap .i64 (i4 + 1))))] [.var [.pv (.int .i64 x2)]] ?_ ?_
      · simp -implicitDefEqProofs only [RUNS, qindex, Nat.reduceAdd, Nat.reduceLeDiff, Nat.reduceSub, reduceIte, Nat.reduceEqDiff, Nat.reduceLT, reduceCtorEq, Nat.reduceMul, Nat.reduceBEq, Int.reduceEq, if_true, if_false, eq_self, ne_eq, env_bT, T_3, P31_eq, Redir.pv_eq, P154_eq, Cmd.pv_eq, P32_eq, Word.pv_eq, GValue.pv_eq, P22_eq, Var.pv_eq, P52_eq, GEnv.pv_eq, eqT_3]
      exact ⟨(m7, IntKind.wrap .i64 (i4 + 1)), h, (Weak.norm (m := 1) (Nat.le_of_ble_eq_true rfl) ⟨rfl, rfl, rfl, rfl, trivial⟩ rfl rfl rfl), Nat.lt_succ_self _⟩
  · replace h := bif_f hb8 h
    refine AW.exit ?_
    refine AW.seq ?_
    refine AW.reg hS [(4, .pv (.int .i64 (-1)))] [.var [.pv (.int .i64 x2)]] ?_ ?_
    · simp -implicitDefEqProofs only [RUNS, qindex, Nat.reduceAdd, Nat.reduceLeDiff, Nat.reduceSub, reduceIte, Nat.reduceEqDiff, Nat.reduceLT, reduceCtorEq, Nat.reduceMul, Nat.reduceBEq, Int.reduceEq, if_true, if_false, eq_self, ne_eq, env_bT, P31_eq, Redir.pv_eq, P154_eq, Cmd.pv_eq, P32_eq, Word.pv_eq, GValue.pv_eq, P22_eq, Var.pv_eq, P52_eq, GEnv.pv_eq]
    refine AW.ret ?_
    cases h
    show finish _ _ _ _ _ = _
    first | rfl | (simp [finish, resOf, renArgs, toPV, selObjs, sl])

set_option maxHeartbeats 4000000 in
theorem g_F60 {O : Orc} (hS : Sound env O) (hpf : O.pf = pfn) (c_F75 : C_F75 O) (l1 : List GEnv) (group2 : Int) (r3 : Int) (h : F60 l1 group2 = some r3) : Good env 60 [.pv (.slice (List.map GEnv.pv l1)), .pv (.int .i64 group2)] [] [.pv (.int .i64 r3)] [] := by
  have pf_75 : O.pf 75 = false := by rw [hpf]; rfl
  refine Good.start (fn := Tryd.f60) (N := 8) fn_60 rfl rfl (by simp) [] _ rfl rfl ?_
  rw [F60] at h
  refine AW.seq ?_
  refine AW.reg hS [(0, .pv (.slice (List.map GEnv.pv l1))), (3, .ref 0 0)] [.var [.pv (.int .i64 group2)]] ?_ ?_
  · simp -implicitDefEqProofs only [RUNS, qindex, Nat.reduceAdd, Nat.reduceLeDiff, Nat.reduceSub, reduceIte, Nat.reduceEqDiff, Nat.reduceLT, reduceCtorEq, Nat.reduceMul, Nat.reduceBEq, Int.reduceEq, if_true, if_false, eq_self, ne_eq, env_bT, T_3, P31_eq, Redir.pv_eq, P154_eq, Cmd.pv_eq, P32_eq, Word.pv_eq, GValue.pv_eq, P22_eq, Var.pv_eq, P52_eq, GEnv.pv_eq]
  refine AW.seq ?_
  replace h := Option.bind_eq_some_iff.1 h; obtain ⟨r4, q5, h⟩ := h
  have f6 := c_F75 l1 group2 r4 q5
  try dsimp only at f6
  have e7 : ecall O [.var [.pv (.int .i64 group2)]] 75 [.pv (.slice (List.map GEnv.pv l1)), .fn 76 [0]] = some (retAV [.pv (.int .i64 r4)], [.var [.pv (.int .i64 group2)]]) := ecall_eq rfl rfl rfl f6 rfl rfl rfl
  refine AW.reg hS [(4, .pv (.int .i64 r4))] [.var [.pv (.int .i64 group2)]] ?_ ?_
  · simp -implicitDefEqProofs only [RUNS, qindex, Nat.reduceAdd, Nat.reduceLeDiff, Nat.reduceSub, reduceIte, Nat.reduceEqDiff, Nat.reduceLT, reduceCtorEq, Nat.reduceMul, Nat.reduceBEq, Int.reduceEq, if_true, if_false, eq_self, ne_eq, env_bT, T_30, T_54, P31_eq, Redir.pv_eq, P154_eq, Cmd.pv_eq, P32_eq, Word.pv_eq, GValue.pv_eq, P22_eq, Var.pv_eq, P52_eq, GEnv.pv_eq, pf_75, e7]
  refine AW.ret ?_
  cases h
  show finish _ _ _ _ _ = _
  first | rfl | (simp [finish, resOf, renArgs, toPV, selObjs, sl])

set_option maxHeartbeats 4000000 in
theorem g_F78 {O : Orc} (hS : Sound env O) (hpf : O.pf = pfn) (v1 : Var) (x2 : Str) (r3 : Bool) (h : F78 v1 x2 = some r3) : Good env 78 [.pv (.agg [.int .i64 v1.id_, .str v1.name_, .slice (List.map PV.str v1.values_)]), .ref 0 0] [.var [.pv (.str x2)]] [.pv (.bool r3)] [.var [.pv (.str x2)]] := by
  refine Good.start (fn := Tryd.f78) (N := 8) fn_78 rfl rfl (by simp) [] _ rfl rfl ?_
  rw [F78] at h
  refine AW.seq ?_
  refine AW.reg hS [(1, .ref 0 0), (2, .ref 1 0)] [.var [.pv (.str x2)], .var [.pv (.int .i64 v1.id_), .pv (.str v1.name_), .pv (.slice (List.map PV.str v1.values_))]] ?_ ?_
  · simp -implicitDefEqProofs only [RUNS, qindex, Nat.reduceAdd, Nat.reduceLeDiff, Nat.reduceSub, reduceIte, Nat.reduceEqDiff, Nat.reduceLT, reduceCtorEq, Nat.reduceMul, Nat.reduceBEq, Int.reduceEq, if_true, if_false, eq_self, ne_eq, env_bT, T_56, P31_eq, Redir.pv_eq, P154_eq, Cmd.pv_eq, P32_eq, Word.pv_eq, GValue.pv_eq, P22_eq, Var.pv_eq, P52_eq, GEnv.pv_eq]
  refine AW.seq ?_
  refine AW.reg hS [(3, .pv (.bool (decide (v1.name_ = x2))))] [.var [.pv (.str x2)], .var [.pv (.int .i64 v1.id_), .pv (.str v1.name_), .pv (.slice (List.map PV.str v1.values_))]] ?_ ?_
  · simp -implicitDefEqProofs only [RUNS, qindex, Nat.reduceAdd, Nat.reduceLeDiff, Nat.reduceSub, reduceIte, Nat.reduceEqDiff, Nat.reduceLT, reduceCtorEq, Nat.reduceMul, Nat.reduceBEq, Int.reduceEq, if_true, if_false, eq_self, ne_eq, env_bT, T_9, T_56, P31_eq, Redir.pv_eq, P154_eq, Cmd.pv_eq, P32_eq, Word.pv_eq, GValue.pv_eq, P22_eq, Var.pv_eq, P52_eq, GEnv.pv_eq, eqT_9]
  refine AW.ret ?_
  cases h
  show finish _ _ _ _ _ = _
  first | rfl | (simp [finish, resOf, renArgs, toPV, selObjs, sl])

set_option maxHeartbeats 4000000 in
theorem g_F77 {O : Orc} (hS : Sound env O) (hpf : O.pf = pfn) (c_F78 : C_F78 O) (s1 : List Var) (x2 : Str) (r3 : Int) (h : F77 s1 x2 = some r3) : Good env 77 [.pv (.slice (List.map Var.pv s1)), .fn 78 [0]] [.var [.pv (.str x2)]] [.pv (.int .i64 r3)] [.var [.pv (.str x2)]] := by
  have pf_78 : O.pf 78 = false := by rw [hpf]; rfl
  refine Good.start (fn := Tryd.f77) (N := 19) fn_77 rfl rfl (by simp) [] _ rfl rfl ?_
  rw [F77] at h
  refine AW.seq ?_
  refine AW.reg hS [(0, .pv (.slice (List.map Var.pv s1))), (1, .fn 78 [0])] [.var [.pv (.str x2)]] ?_ ?_
  · simp -implicitDefEqProofs only [RUNS, qindex, Nat.reduceAdd, Nat.reduceLeDiff, Nat.reduceSub, reduceIte, Nat.reduceEqDiff, Nat.reduceLT, reduceCtorEq, Nat.reduceMul, Nat.reduceBEq, Int.reduceEq, if_true, if_false, eq_self, ne_eq, env_bT, P31_eq, Redir.pv_eq, P154_eq, Cmd.pv_eq, P32_eq, Word.pv_eq, GValue.pv_eq, P22_eq, Var.pv_eq, P52_eq, GEnv.pv_eq]
  refine AW.seq ?_
  refine AW.seq ?_
  refine AW.reg hS [(0, .pv (.slice (List.map Var.pv s1))), (1, .fn 78 [0]), (7, .pv (.int .i64 (s1.length : Int))), (8, .pv (.int .i64 0))] [.var [.pv (.str x2)]] ?_ ?_
  · simp -implicitDefEqProofs only [RUNS, qindex, Nat.reduceAdd, Nat.reduceLeDiff, Nat.reduceSub, reduceIte, Nat.reduceEqDiff, Nat.reduceLT, reduceCtorEq, Nat.reduceMul, Nat.reduceBEq, Int.reduceEq, if_true, if_false, eq_self, ne_eq, env_bT, T_52, T_56, P31_eq, Redir.pv_eq, P154_eq, Cmd.pv_eq, P32_eq, Word.pv_eq, GValue.pv_eq, P22_eq, Var.pv_eq, P52_eq, GEnv.pv_eq]
  refine AW.block ?_
  refine AW.weak (Weak.slots (L := [(0, .pv (.slice (List.map Var.pv s1))), (1, .fn 78 [0]), (7, .pv (.int .i64 (s1.length : Int))), (8, .pv (.int .i64 0))]) ⟨rfl, rfl, rfl, rfl, trivial⟩) ?_
  refine AW.loopI (α := Nat × Int) (fun (_, i4) => ⟨sl [(0, .pv (.slice (List.map Var.pv s1))), (1, .fn 78 [0]), (7, .pv (.int .i64 (s1.length : Int))), (8, .pv (.int .i64 i4))], 19, [.var [.pv (.str x2)]]⟩) (fun x => iter (F77_b1 s1 x2) x.1 x.2 = some r3) (fun x => x.1) (BIG, 0) h ?_
  clear h
  intro ⟨n17, i4⟩ h
  replace h := iter_some h; obtain ⟨m7, rfl, h⟩ := h
  rw [F77_b1] at h
  try dsimp only at h
  show AW _ _ _ _ ⟨sl [(0, .pv (.slice (List.map Var.pv s1))), (1, .fn 78 [0]), (7, .pv (.int .i64 (s1.length : Int))), (8, .pv (.int .i64 i4))], 19, [.var [.pv (.str x2)]]⟩
  refine AW.seq ?_
  refine AW.reg hS [(0, .pv (.slice (List.map Var.pv s1))), (1, .fn 78 [0]), (7, .pv (.int .i64 (s1.length : Int))), (8, .pv (.int .i64 i4)), (9, .pv (.bool (decide (i4 < (s1.length : Int)))))] [.var [.pv (.str x2)]] ?_ ?_
  · simp -implicitDefEqProofs only [RUNS, qindex, Nat.reduceAdd, Nat.reduceLeDiff, Nat.reduceSub, reduceIte, Nat.reduceEqDiff, Nat.reduceLT, reduceCtorEq, Nat.reduceMul, Nat.reduceBEq, Int.reduceEq, if_true, if_false, eq_self, ne_eq, env_bT, T_3, P31_eq, Redir.pv_eq, P154_eq, Cmd.pv_eq, P32_eq, Word.pv_eq, GValue.pv_eq, P22_eq, Var.pv_eq, P52_eq, GEnv.pv_eq, eqT_3]
  refine AW.seq ?_
  refine AW.cond (b := decide (i4 < (s1.length : Int))) rfl (fun hb8 => ?_) (fun hb8 => ?_)
  · replace h := bif_t hb8 h
    refine AW.skip ?_
    refine AW.seq ?_
    refine AW.block ?_
    refine AW.seq ?_
    refine AW.reg hS [(0, .pv (.slice (List.map Var.pv s1))), (1, .fn 78 [0]), (5, .pv (.int .i64 i4)), (7, .pv (.int .i64 (s1.length : Int))), (8, .pv (.int .i64 i4))] [.var [.pv (.str x2)]] ?_ ?_
    · simp -implicitDefEqProofs only [RUNS, qindex, Nat.reduceAdd, Nat.reduceLeDiff, Nat.reduceSub, reduceIte, Nat.reduceEqDiff, Nat.reduceLT, reduceCtorEq, Nat.reduceMul, Nat.reduceBEq, Int.reduceEq, if_true, if_false, eq_self, ne_eq, env_bT, P31_eq, Redir.pv_eq, P154_eq, Cmd.pv_eq, P32_eq, Word.pv_eq, GValue.pv_eq, P22_eq, Var.pv_eq, P52_eq, GEnv.pv_eq]
    refine AW.seq ?_
    replace h := Option.bind_eq_some_iff.1 h; obtain ⟨u9, q10, h⟩ := h
    have f11 := lidx_f q10
    replace h := Option.bind_eq_some_iff.1 h; obtain ⟨r12, q13, h⟩ := h
    have f14 := c_F78 u9 x2 r12 q13
    try dsimp only at f14
    have e15 : ecall O [.var [.pv (.str x2)]] 78 [.pv (.agg [.int .i64 u9.id_, .str u9.name_, .slice (List.map PV.str u9.values_)]), .ref 0 0] = some (retAV [.pv (.bool r12)], [.var [.pv (.str x2)]]) := ecall_eq rfl rfl rfl f14 rfl rfl rfl
    refine AW.reg hS [(0, .pv (.slice (List.map Var.pv s1))), (1, .fn 78 [0]), (5, .pv (.int .i64 i4)), (7, .pv (.int .i64 (s1.length : Int))), (8, .pv (.int .i64 i4)), (16, .pv (.bool r12))] [.var [.pv (.str x2)]] ?_ ?_
    · simp -implicitDefEqProofs only [RUNS, qindex, Nat.reduceAdd, Nat.reduceLeDiff, Nat.reduceSub, reduceIte, Nat.reduceEqDiff, Nat.reduceLT, reduceCtorEq, Nat.reduceMul, Nat.reduceBEq, Int.reduceEq, if_true, if_false, eq_self, ne_eq, env_bT, T_52, T_56, P31_eq, Redir.pv_eq, P154_eq, Cmd.pv_eq, P32_eq, Word.pv_eq, GValue.pv_eq, P22_eq, Var.pv_eq, P52_eq, GEnv.pv_eq, f11.1, f11.2.1, pf_78, e15]
    refine AW.cond (b := r12) rfl (fun hb16 => ?_) (fun hb16 => ?_)
    · replace h := bif_t hb16 h
      refine AW.seq ?_
      refine AW.reg hS [(4, .pv (.int .i64 i4))] [.var [.pv (.str x2)]] ?_ ?_
      · simp -implicitDefEqProofs only [RUNS, qindex, Nat.reduceAdd, Nat.reduceLeDiff, Nat.reduceSub, reduceIte, Nat.reduceEqDiff, Nat.reduceLT, reduceCtorEq, Nat.reduceMul, Nat.reduceBEq, Int.reduceEq, if_true, if_false, eq_self, ne_eq, env_bT, P31_eq, Redir.pv_eq, P154_eq, Cmd.pv_eq, P32_eq, Word.pv_eq, GValue.pv_eq, P22_eq, Var.pv_eq, P52_eq, GEnv.pv_eq]
      refine AW.ret ?_
      cases h
      show finish _ _ _ _ _ = _
      first | rfl | (simp [finish, resOf, renArgs, toPV, selObjs, sl])
    · replace h := bif_f hb16 h
      refine AW.skip ?_
      refine AW.reg hS [(0, .pv (.slice (List.map Var.pv s1))), (1, .fn 78 [0]), (7, .pv (.int .i64 (s1.length : Int))), (8, .pv (.int .i64 (IntKind.wrap .i64 (i4 + 1))))] [.var [.pv (.str x2)]] ?_ ?_
      · simp -implicitDefEqProofs only [RUNS, qindex, Nat.reduceAdd, Nat.reduceLeDiff, Nat.reduceSub, reduceIte, Nat.reduceEqDiff, Nat.reduceLT, reduceCtorEq, Nat.reduceMul, Nat.reduceBEq, Int.reduceEq, if_true, if_false, eq_self, ne_eq, env_bT, T_3, P31_eq, Redir.pv_eq, P154_eq, Cmd.pv_eq, P32_eq, Word.pv_eq, GValue.pv_eq, P22_eq, Var.pv_eq, P52_eq, GEnv.pv_eq, eqT_3]
      exact ⟨(m7, IntKind.wrap .i64 (i4 + 1)), h, (Weak.norm (m := 1) (Nat.le_of_ble_eq_true rfl) ⟨rfl, rfl, rfl, rfl, trivial⟩ rfl rfl rfl), Nat.lt_succ_self _⟩
  · replace h := bif_f hb8 h
    refine AW.exit ?_
    refine AW.seq ?_
    refine AW.reg hS [(4, .pv (.int .i64 (-1)))] [.var [.pv (.str x2)]] ?_ ?_
    · simp -implicitDefEqProofs only [RUNS, qindex, Nat.reduceAdd, Nat.reduceLeDiff, Nat.reduceSub, reduceIte, Nat.reduceEqDiff, Nat.reduceLT, reduceCtorEq, Nat.reduceMul, Nat.reduceBEq, Int.reduceEq, if_true, if_false, eq_self, ne_eq, env_bT, P31_eq, Redir.pv_eq, P154_eq, Cmd.pv_eq, P32_eq, Word.pv_eq, GValue.pv_eq, P22_eq, Var.pv_eq, P52_eq, GEnv.pv_eq]
    refine AW.ret ?_
    cases h
    show finish _ _ _ _ _ = _
    first | rfl | (simp [finish, resOf, renArgs, toPV, selObjs, sl])

set_option maxHeartbeats 4000000 in
theorem g_F61 {O : Orc} (hS : Sound env O) (hpf : O.pf = pfn) (c_F77 : C_F77 O) (g1 : GEnv) (name2 : Str) (r3 : Int) (h : F61 g1 name2 = some r3) : Good env 61 [.pv (.agg [.int .i64 g1.id_, .int .i64 g1.next_, .slice (List.map Var.pv g1.vars_)]), .pv (.str name2)] [] [.pv (.int .i64 r3)] [] := by
  have pf_77 : O.pf 77 = false := by rw [hpf]; rfl
  refine Good.start (fn := Tryd.f61) (N := 9) fn_61 rfl rfl (by simp) [] _ rfl rfl ?_
  rw [F61] at h
  refine AW.seq ?_
  refine AW.reg hS [(2, .ref 0 0), (3, .ref 1 0)] [.var [.pv (.int .i64 g1.id_), .pv (.int .i64 g1.next_), .pv (.slice (List.map Var.pv g1.vars_))], .var [.pv (.str name2)]] ?_ ?_
  · simp -implicitDefEqProofs only [RUNS, qindex, Nat.reduceAdd, Nat.reduceLeDiff, Nat.reduceSub, reduceIte, Nat.reduceEqDiff, Nat.reduceLT, reduceCtorEq, Nat.reduceMul, Nat.reduceBEq, Int.reduceEq, if_true, if_false, eq_self, ne_eq, env_bT, T_9, T_54, P31_eq, Redir.pv_eq, P154_eq, Cmd.pv_eq, P32_eq, Word.pv_eq, GValue.pv_eq, P22_eq, Var.pv_eq, P52_eq, GEnv.pv_eq]
  refine AW.seq ?_
  replace h := Option.bind_eq_some_iff.1 h; obtain ⟨r4, q5, h⟩ := h
  have f6 := c_F77 g1.vars_ name2 r4 q5
  try dsimp only at f6
  have e7 : ecall O [.var [.pv (.int .i64 g1.id_), .pv (.int .i64 g1.next_), .pv (.slice (List.map Var.pv g1.vars_))], .var [.pv (.str name2)]] 77 [.pv (.slice (List.map Var.pv g1.vars_)), .fn 78 [1]] = some (retAV [.pv (.int .i64 r4)], [.var [.pv (.int .i64 g1.id_), .pv (.int .i64 g1.next_), .pv (.slice (List.map Var.pv g1.vars_))], .var [.pv (.str name2)]]) := ecall_eq rfl rfl rfl f6 rfl rfl rfl
  refine AW.reg hS [(4, .pv (.int .i64 r4))] [.var [.pv (.int .i64 g1.id_), .pv (.int .i64 g1.next_), .pv (.slice (List.map Var.pv g1.vars_))], .var [.pv (.str name2)]] ?_ ?_
  · simp -implicitDefEqProofs only [RUNS, qindex, Nat.reduceAdd, Nat.reduceLeDiff, Nat.reduceSub, reduceIte, Nat.reduceEqDiff, Nat.reduceLT, reduceCtorEq, Nat.reduceMul, Nat.reduceBEq, Int.reduceEq, if_true, if_false, eq_self, ne_eq, env_bT, T_52, T_54, T_56, P31_eq, Redir.pv_eq, P154_eq, Cmd.pv_eq, P32_eq, Word.pv_eq, GValue.pv_eq, P22_eq, Var.pv_eq, P52_eq, GEnv.pv_eq, pf_77, e7]
  refine AW.ret ?_
  cases h
  show finish _ _ _ _ _ = _
  first | rfl | (simp [finish, resOf, renArgs, toPV, selObjs, sl])

set_option maxHeartbeats 4000000 in
theorem g_F50 {O : Orc} (hS : Sound env O) (hpf : O.pf = pfn) (c_F60 : C_F60 O) (c_F61 : C_F61 O) (c_L_Clone : C_L_Clone O) (l1 : List GEnv) (group2 : Int) (name3 : Str) (r4 : List Str) (r5 : Bool) (h : F50 l1 group2 name3 = some (r4, r5)) : Good env 50 [.pv (.slice (List.map GEnv.pv l1)), .pv (.int .i64 group2), .pv (.str name3)] [] [.pv (.slice (List.map PV.str r4)), .pv (.bool r5)] [] := by
  have pf_60 : O.pf 60 = true := by rw [hpf]; rfl
  have pf_61 : O.pf 61 = true := by rw [hpf]; rfl
  have pf_62 : O.pf 62 = true := by rw [hpf]; rfl
  refine Good.start (fn := Tryd.f50) (N := 33) fn_50 rfl rfl (by simp) [] _ rfl rfl ?_
  rw [F50] at h
  refine AW.seq ?_
  refine AW.reg hS [(0, .pv (.slice (List.map GEnv.pv l1))), (1, .pv (.int .i64 group2)), (2, .pv (.str name3))] [] ?_ ?_
  · simp -implicitDefEqProofs only [RUNS, qindex, Nat.reduceAdd, Nat.reduceLeDiff, Nat.reduceSub, reduceIte, Nat.reduceEqDiff, Nat.reduceLT, reduceCtorEq, Nat.reduceMul, Nat.reduceBEq, Int.reduceEq, if_true, if_false, eq_self, ne_eq, env_bT, P31_eq, Redir.pv_eq, P154_eq, Cmd.pv_eq, P32_eq, Word.pv_eq, GValue.pv_eq, P22_eq, Var.pv_eq, P52_eq, GEnv.pv_eq]
  refine AW.seq ?_
  replace h := Option.bind_eq_some_iff.1 h; obtain ⟨r6, q7, h⟩ := h
  have f8 := c_F60 l1 group2 r6 q7
  try dsimp only at f8
  refine AW.reg hS [(0, .pv (.slice (List.map GEnv.pv l1))), (2, .pv (.str name3)), (8, .pv (.int .i64 r6))] [] ?_ ?_
  · simp -implicitDefEqProofs only [RUNS, qindex, Nat.reduceAdd, Nat.reduceLeDiff, Nat.reduceSub, reduceIte, Nat.reduceEqDiff, Nat.reduceLT, reduceCtorEq, Nat.reduceMul, Nat.reduceBEq, Int.reduceEq, if_true, if_false, eq_self, ne_eq, env_bT, T_3, T_30, T_54, P31_eq, Redir.pv_eq, P154_eq, Cmd.pv_eq, P32_eq, Word.pv_eq, GValue.pv_eq, P22_eq, Var.pv_eq, P52_eq, GEnv.pv_eq, pf_60, f8]
  refine AW.seq ?_
  refine AW.seq ?_
  refine AW.reg hS [(0, .pv (.slice (List.map GEnv.pv l1))), (2, .pv (.str name3)), (8, .pv (.int .i64 r6)), (14, .pv (.bool (decide (r6 < 0))))] [] ?_ ?_
  · simp -implicitDefEqProofs only [RUNS, qindex, Nat.reduceAdd, Nat.reduceLeDiff, Nat.reduceSub, reduceIte, Nat.reduceEqDiff, Nat.reduceLT, reduceCtorEq, Nat.reduceMul, Nat.reduceBEq, Int.reduceEq, if_true, if_false, eq_self, ne_eq, env_bT, T_3, P31_eq, Redir.pv_eq, P154_eq, Cmd.pv_eq, P32_eq, Word.pv_eq, GValue.pv_eq, P22_eq, Var.pv_eq, P52_eq, GEnv.pv_eq, eqT_3]
  refine AW.cond (b := decide (r6 < 0)) rfl (fun hb9 => ?_) (fun hb9 => ?_)
  · replace h := bif_t hb9 h
    refine AW.seq ?_
    refine AW.reg hS [(6, .nils), (7, .pv (.bool false))] [] ?_ ?_
    · simp -implicitDefEqProofs only [RUNS, qindex, Nat.reduceAdd, Nat.reduceLeDiff, Nat.reduceSub, reduceIte, Nat.reduceEqDiff, Nat.reduceLT, reduceCtorEq, Nat.reduceMul, Nat.reduceBEq, Int.reduceEq, if_true, if_false, eq_self, ne_eq, env_bT, P31_eq, Redir.pv_eq, P154_eq, Cmd.pv_eq, P32_eq, Word.pv_eq, GValue.pv_eq, P22_eq, Var.pv_eq, P52_eq, GEnv.pv_eq]
    refine AW.ret ?_
    cases h
    show finish _ _ _ _ _ = _
    first | rfl | (simp [finish, resOf, renArgs, toPV, selObjs, sl])
  · replace h := bif_f hb9 h
    refine AW.skip ?_
    refine AW.seq ?_
    replace h := Option.bind_eq_some_iff.1 h; obtain ⟨u10, q11, h⟩ := h
    have f12 := lidx_f q11
    replace h := Option.bind_eq_some_iff.1 h; obtain ⟨r13, q14, h⟩ := h
    have f15 := c_F61 u10 name3 r13 q14
    try dsimp only at f15
    refine AW.reg hS [(0, .pv (.slice (List.map GEnv.pv l1))), (8, .pv (.int .i64 r6)), (9, .pv (.int .i64 r13))] [] ?_ ?_
    · simp -implicitDefEqProofs only [RUNS, qindex, Nat.reduceAdd, Nat.reduceLeDiff, Nat.reduceSub, reduceIte, Nat.reduceEqDiff, Nat.reduceLT, reduceCtorEq, Nat.reduceMul, Nat.reduceBEq, Int.reduceEq, if_true, if_false, eq_self, ne_eq, env_bT, T_9, T_30, T_54, P31_eq, Redir.pv_eq, P154_eq, Cmd.pv_eq, P32_eq, Word.pv_eq, GValue.pv_eq, P22_eq, Var.pv_eq, P52_eq, GEnv.pv_eq, f12.1, f12.2.1, pf_61, f15]
    refine AW.seq ?_
    refine AW.seq ?_
    refine AW.reg hS [(0, .pv (.slice (List.map GEnv.pv l1))), (8, .pv (.int .i64 r6)), (9, .pv (.int .i64 r13)), (22, .pv (.bool (decide (r13 < 0))))] [] ?_ ?_
    · simp -implicitDefEqProofs only [RUNS, qindex, Nat.reduceAdd, Nat.reduceLeDiff, Nat.reduceSub, reduceIte, Nat.reduceEqDiff, Nat.reduceLT, reduceCtorEq, Nat.reduceMul, Nat.reduceBEq, Int.reduceEq, if_true, if_false, eq_self, ne_eq, env_bT, T_3, P31_eq, Redir.pv_eq, P154_eq, Cmd.pv_eq, P32_eq, Word.pv_eq, GValue.pv_eq, P22_eq, Var.pv_eq, P52_eq, GEnv.pv_eq, eqT_3]
    refine AW.cond (b := decide (r13 < 0)) rfl (fun hb16 => ?_) (fun hb16 => ?_)
    · replace h := bif_t hb16 h
      refine AW.seq ?_
      refine AW.reg hS [(6, .nils), (7, .pv (.bool false))] [] ?_ ?_
      · simp -implicitDefEqProofs only [RUNS, qindex, Nat.reduceAdd, Nat.reduceLeDiff, Nat.reduceSub, reduceIte, Nat.reduceEqDiff, Nat.reduceLT, reduceCtorEq, Nat.reduceMul, Nat.reduceBEq, Int.reduceEq, if_true, if_false, eq_self, ne_eq, env_bT, P31_eq, Redir.pv_eq, P154_eq, Cmd.pv_eq, P32_eq, Word.pv_eq, GValue.pv_eq, P22_eq, Var.pv_eq, P52_eq, GEnv.pv_eq]
      refine AW.ret ?_
      cases h
      show finish _ _ _ _ _ = _
      first | rfl | (simp [finish, resOf, renArgs, toPV, selObjs, sl])
    · replace h := bif_f hb16 h
      refine AW.skip ?_
      refine AW.seq ?_
      replace h := Option.bind_eq_some_iff.1 h; obtain ⟨u17, q18, h⟩ := h
      have f19 := lidx_f q18
      replace h := Option.bind_eq_some_iff.1 h; obtain ⟨l20, q21, h⟩ := h
      have f22 := c_L_Clone u17.values_ l20 q21
      try dsimp only at f22
      refine AW.reg hS [(6, .pv (.slice (List.map PV.str l20))), (7, .pv (.bool true))] [] ?_ ?_
      · simp -implicitDefEqProofs only [RUNS, qindex, Nat.reduceAdd, Nat.reduceLeDiff, Nat.reduceSub, reduceIte, Nat.reduceEqDiff, Nat.reduceLT, reduceCtorEq, Nat.reduceMul, Nat.reduceBEq, Int.reduceEq, if_true, if_false, eq_self, ne_eq, env_bT, T_9, T_22, T_30, T_52, T_54, T_56, P31_eq, Redir.pv_eq, P154_eq, Cmd.pv_eq, P32_eq, Word.pv_eq, GValue.pv_eq, P22_eq, Var.pv_eq, P52_eq, GEnv.pv_eq, f12.1, f12.2.1, f19.1, f19.2.1, pf_62, f22]
      refine AW.ret ?_
      cases h
      show finish _ _ _ _ _ = _
      first | rfl | (simp [finish, resOf, renArgs, toPV, selObjs, sl])

set_option maxHeartbeats 4000000 in
theorem g_F36 {O : Orc} (hS : Sound env O) (hpf : O.pf = pfn) (c_F24 : C_F24 O) (c_F50 : C_F50 O) (l1 : List GEnv) (group2 : Int) (name3 : Str) (r4 : List Str) (h : F36 l1 group2 name3 = some r4) : Good env 36 [.pv (.slice (List.map GEnv.pv l1)), .pv (.int .i64 group2), .pv (.str name3)] [] [.pv (.slice (List.map PV.str r4))] [] := by
  have pf_24 : O.pf 24 = true := by rw [hpf]; rfl
  have pf_50 : O.pf 50 = true := by rw [hpf]; rfl
  refine Good.start (fn := Tryd.f36) (N := 42) fn_36 rfl rfl (by simp) [] _ rfl rfl ?_
  rw [F36] at h
  refine AW.seq ?_
  refine AW.reg hS [(0, .pv (.slice (List.map GEnv.pv l1))), (1, .pv (.int .i64 group2)), (2, .pv (.str name3))] [] ?_ ?_
  · simp -implicitDefEqProofs only [RUNS, qindex, Nat.reduceAdd, Nat.reduceLeDiff, Nat.reduceSub, reduceIte, Nat.reduceEqDiff, Nat.reduceLT, reduceCtorEq, Nat.reduceMul, Nat.reduceBEq, Int.reduceEq, if_true, if_false, eq_self, ne_eq, env_bT, P31_eq, Redir.pv_eq, P154_eq, Cmd.pv_eq, P32_eq, Word.pv_eq, GValue.pv_eq, P22_eq, Var.pv_eq, P52_eq, GEnv.pv_eq]
  refine AW.seq ?_
  refine AW.seq ?_
  replace h := Option.bind_eq_some_iff.1 h; obtain ⟨⟨r5, r6⟩, q7, h⟩ := h
  dsimp only at h
  have f8 := c_F24 name3 r5 r6 q7
  try dsimp only at f8
  refine AW.reg hS [(0, .pv (.slice (List.map GEnv.pv l1))), (1, .pv (.int .i64 group2)), (2, .pv (.str name3)), (7, .pv (.int .i64 r5)), (8, .pv (.bool r6))] [] ?_ ?_
  · simp -implicitDefEqProofs only [RUNS, qindex, Nat.reduceAdd, Nat.reduceLeDiff, Nat.reduceSub, reduceIte, Nat.reduceEqDiff, Nat.reduceLT, reduceCtorEq, Nat.reduceMul, Nat.reduceBEq, Int.reduceEq, if_true, if_false, eq_self, ne_eq, env_bT, T_9, P31_eq, Redir.pv_eq, P154_eq, Cmd.pv_eq, P32_eq, Word.pv_eq, GValue.pv_eq, P22_eq, Var.pv_eq, P52_eq, GEnv.pv_eq, pf_24, f8]
  refine AW.seq ?_
  refine AW.reg hS [(0, .pv (.slice (List.map GEnv.pv l1))), (1, .pv (.int .i64 group2)), (2, .pv (.str name3)), (7, .pv (.int .i64 r5)), (18, .pv (.bool r6))] [] ?_ ?_
  · simp -implicitDefEqProofs only [RUNS, qindex, Nat.reduceAdd, Nat.reduceLeDiff, Nat.reduceSub, reduceIte, Nat.reduceEqDiff, Nat.reduceLT, reduceCtorEq, Nat.reduceMul, Nat.reduceBEq, Int.reduceEq, if_true, if_false, eq_self, ne_eq, env_bT, P31_eq, Redir.pv_eq, P154_eq, Cmd.pv_eq, P32_eq, Word.pv_eq, GValue.pv_eq, P22_eq, Var.pv_eq, P52_eq, GEnv.pv_eq]
  refine AW.cond (b := r6) rfl (fun hb9 => ?_) (fun hb9 => ?_)
  · replace h := bif_t hb9 h
    refine AW.seq ?_
    replace h := Option.bind_eq_some_iff.1 h; obtain ⟨⟨r10, r11⟩, q12, h⟩ := h
    dsimp only at h
    have f13 := c_F50 l1 group2 [42] r10 r11 q12
    try dsimp only at f13
    try simp only [List.map_cons, List.map_nil, P31_eq, Redir.pv_eq, P154_eq, Cmd.pv_eq, P32_eq, Word.pv_eq, GValue.pv_eq, P22_eq, Var.pv_eq, P52_eq, GEnv.pv_eq] at f13
    refine AW.reg hS [(7, .pv (.int .i64 r5)), (9, .pv (.slice (List.map PV.str r10)))] [] ?_ ?_
    · simp -implicitDefEqProofs only [RUNS, qindex, Nat.reduceAdd, Nat.reduceLeDiff, Nat.reduceSub, reduceIte, Nat.reduceEqDiff, Nat.reduceLT, reduceCtorEq, Nat.reduceMul, Nat.reduceBEq, Int.reduceEq, if_true, if_false, eq_self, ne_eq, env_bT, T_3, T_9, T_30, T_54, P31_eq, Redir.pv_eq, P154_eq, Cmd.pv_eq, P32_eq, Word.pv_eq, GValue.pv_eq, P22_eq, Var.pv_eq, P52_eq, GEnv.pv_eq, pf_50, f13]
    refine AW.seq ?_
    refine AW.seq ?_
    refine AW.reg hS [(7, .pv (.int .i64 r5)), (9, .pv (.slice (List.map PV.str r10))), (28, .pv (.bool (decide ((r10.length : Int) < r5))))] [] ?_ ?_
    · simp -implicitDefEqProofs only [RUNS, qindex, Nat.reduceAdd, Nat.reduceLeDiff, Nat.reduceSub, reduceIte, Nat.reduceEqDiff, Nat.reduceLT, reduceCtorEq, Nat.reduceMul, Nat.reduceBEq, Int.reduceEq, if_true, if_false, eq_self, ne_eq, env_bT, T_3, T_9, T_22, P31_eq, Redir.pv_eq, P154_eq, Cmd.pv_eq, P32_eq, Word.pv_eq, GValue.pv_eq, P22_eq, Var.pv_eq, P52_eq, GEnv.pv_eq, eqT_3]
    refine AW.cond (b := decide ((r10.length : Int) < r5)) rfl (fun hb14 => ?_) (fun hb14 => ?_)
    · replace h := bif_t hb14 h
      refine AW.seq ?_
      refine AW.reg hS [(6, .nils)] [] ?_ ?_
      · simp -implicitDefEqProofs only [RUNS, qindex, Nat.reduceAdd, Nat.reduceLeDiff, Nat.reduceSub, reduceIte, Nat.reduceEqDiff, Nat.reduceLT, reduceCtorEq, Nat.reduceMul, Nat.reduceBEq, Int.reduceEq, if_true, if_false, eq_self, ne_eq, env_bT, P31_eq, Redir.pv_eq, P154_eq, Cmd.pv_eq, P32_eq, Word.pv_eq, GValue.pv_eq, P22_eq, Var.pv_eq, P52_eq, GEnv.pv_eq]
      refine AW.ret ?_
      cases h
      show finish _ _ _ _ _ = _
      first | rfl | (simp [finish, resOf, renArgs, toPV, selObjs, sl])
    · replace h := bif_f hb14 h
      refine AW.skip ?_
      refine AW.seq ?_
      replace h := Option.bind_eq_some_iff.1 h; obtain ⟨l15, q16, h⟩ := h
      have f17 := lslice_f q16
      have f17l := f17.2.2.1
      try simp only [Int.toNat_natCast, Int.toNat_zero] at f17l
      refine AW.reg hS [(6, .pv (.slice (List.map PV.str l15)))] [] ?_ ?_
      · simp -implicitDefEqProofs only [RUNS, qindex, Nat.reduceAdd, Nat.reduceLeDiff, Nat.reduceSub, reduceIte, Nat.reduceEqDiff, Nat.reduceLT, reduceCtorEq, Nat.reduceMul, Nat.reduceBEq, Int.reduceEq, if_true, if_false, eq_self, ne_eq, env_bT, T_3, T_9, T_22, P31_eq, Redir.pv_eq, P154_eq, Cmd.pv_eq, P32_eq, Word.pv_eq, GValue.pv_eq, P22_eq, Var.pv_eq, P52_eq, GEnv.pv_eq, eqT_3, Nat.sub_zero, List.drop_zero, f17.1, f17.2.1, f17l, f17.2.2.2.1, f17.2.2.2.2, List.map_take, List.map_drop, List.length_map, Int.toNat_natCast, Int.toNat_zero, str_all] <;> (try simp only [List.length_take, List.length_drop, List.length_map])
      clear f17 f17l
      refine AW.ret ?_
      cases h
      show finish _ _ _ _ _ = _
      first | rfl | (simp [finish, resOf, renArgs, toPV, selObjs, sl])
  · replace h := bif_f hb9 h
    refine AW.skip ?_
    refine AW.seq ?_
    replace h := Option.bind_eq_some_iff.1 h; obtain ⟨⟨r18, r19⟩, q20, h⟩ := h
    dsimp only at h
    have f21 := c_F50 l1 group2 name3 r18 r19 q20
    try dsimp only at f21
    refine AW.reg hS [(11, .pv (.slice (List.map PV.str r18)))] [] ?_ ?_
    · simp -implicitDefEqProofs only [RUNS, qindex, Nat.reduceAdd, Nat.reduceLeDiff, Nat.reduceSub, reduceIte, Nat.reduceEqDiff, Nat.reduceLT, reduceCtorEq, Nat.reduceMul, Nat.reduceBEq, Int.reduceEq, if_true, if_false, eq_self, ne_eq, env_bT, T_3, T_9, T_30, T_54, P31_eq, Redir.pv_eq, P154_eq, Cmd.pv_eq, P32_eq, Word.pv_eq, GValue.pv_eq, P22_eq, Var.pv_eq, P52_eq, GEnv.pv_eq, pf_50, f21]
    refine AW.seq ?_
    refine AW.reg hS [(6, .pv (.slice (List.map PV.str r18)))] [] ?_ ?_
    · simp -implicitDefEqProofs only [RUNS, qindex, Nat.reduceAdd, Nat.reduceLeDiff, Nat.reduceSub, reduceIte, Nat.reduceEqDiff, Nat.reduceLT, reduceCtorEq, Nat.reduceMul, Nat.reduceBEq, Int.reduceEq, if_true, if_false, eq_self, ne_eq, env_bT, P31_eq, Redir.pv_eq, P154_eq, Cmd.pv_eq, P32_eq, Word.pv_eq, GValue.pv_eq, P22_eq, Var.pv_eq, P52_eq, GEnv.pv_eq]
    refine AW.ret ?_
    cases h
    show finish _ _ _ _ _ = _
    first | rfl | (simp [finish, resOf, renArgs, toPV, selObjs, sl])

set_option maxHeartbeats 4000000 in
theorem g_F43 {O : Orc} (hS : Sound env O) (hpf : O.pf = pfn) (c_L_Repeat : C_L_Repeat O) (l1 : List Str) (r2 : List GValue) (h : F43 l1 = some r2) : Good env 43 [.pv (.slice (List.map PV.str l1))] [] [.pv (.slice (List.map GValue.pv r2))] [] := by
  have pf_56 : O.pf 56 = true := by rw [hpf]; rfl
  refine Good.start (fn := Tryd.f43) (N := 22) fn_43 rfl rfl (by simp) [] _ rfl rfl ?_
  rw [F43] at h
  refine AW.seq ?_
  refine AW.reg hS [(0, .pv (.slice (List.map PV.str l1)))] [] ?_ ?_
  · simp -implicitDefEqProofs only [RUNS, qindex, Nat.reduceAdd, Nat.reduceLeDiff, Nat.reduceSub, reduceIte, Nat.reduceEqDiff, Nat.reduceLT, reduceCtorEq, Nat.reduceMul, Nat.reduceBEq, Int.reduceEq, if_true, if_false, eq_self, ne_eq, env_bT, P31_eq, Redir.pv_eq, P154_eq, Cmd.pv_eq, P32_eq, Word.pv_eq, GValue.pv_eq, P22_eq, Var.pv_eq, P52_eq, GEnv.pv_eq]
  refine AW.seq ?_
  refine AW.reg hS [(0, .pv (.slice (List.map PV.str l1))), (3, .nils)] [] ?_ ?_
  · simp -implicitDefEqProofs only [RUNS, qindex, Nat.reduceAdd, Nat.reduceLeDiff, Nat.reduceSub, reduceIte, Nat.reduceEqDiff, Nat.reduceLT, reduceCtorEq, Nat.reduceMul, Nat.reduceBEq, Int.reduceEq, if_true, if_false, eq_self, ne_eq, env_bT, P31_eq, Redir.pv_eq, P154_eq, Cmd.pv_eq, P32_eq, Word.pv_eq, GValue.pv_eq, P22_eq, Var.pv_eq, P52_eq, GEnv.pv_eq]
  refine AW.weak (Weak.own 3 62 2 (by decide) rfl) ?_
  refine AW.weak (Weak.slots (L := [(0, .pv (.slice (List.map PV.str l1))), (3, .vec 0 (List.length ([] : List GValue)))]) ⟨rfl, rfl, trivial⟩) ?_
  refine AW.seq ?_
  refine AW.seq ?_
  refine AW.reg hS [(3, .vec 0 (List.length ([] : List GValue))), (6, .pv (.slice (List.map PV.str l1))), (7, .pv (.int .i64 (l1.length : Int))), (8, .pv (.int .i64 0))] [.row 62 2 (List.map GValue.pv ([] : List GValue)) true] ?_ ?_
  · simp -implicitDefEqProofs only [RUNS, qindex, Nat.reduceAdd, Nat.reduceLeDiff, Nat.reduceSub, reduceIte, Nat.reduceEqDiff, Nat.reduceLT, reduceCtorEq, Nat.reduceMul, Nat.reduceBEq, Int.reduceEq, if_true, if_false, eq_self, ne_eq, env_bT, T_9, T_22, P31_eq, Redir.pv_eq, P154_eq, Cmd.pv_eq, P32_eq, Word.pv_eq, GValue.pv_eq, P22_eq, Var.pv_eq, P52_eq, GEnv.pv_eq]
  refine AW.block ?_
  refine AW.weak (Weak.slots (L := [(3, .vec 0 (List.length ([] : List GValue))), (6, .pv (.slice (List.map PV.str l1))), (7, .pv (.int .i64 (l1.length : Int))), (8, .pv (.int .i64 0))]) ⟨rfl, rfl, rfl, rfl, trivial⟩) ?_
  refine AW.loopI (α := Nat × Int × (List GValue)) (fun (_, i3, l4) => ⟨sl [(3, .vec 0 (List.length l4)), (6, .pv (.slice (List.map PV.str l1))), (7, .pv (.int .i64 (l1.length : Int))), (8, .pv (.int .i64 i3))], 22, [.row 62 2 (List.map GValue.pv l4) true]⟩) (fun x => iter (F43_b1 l1) x.1 x.2 = some r2) (fun x => x.1) (BIG, (0, ([] : List GValue))) h ?_
  clear h
  intro ⟨n18, i3, l4⟩ h
  replace h := iter_some h; obtain ⟨m7, rfl, h⟩ := h
  rw [F43_b1] at h
  try dsimp only at h
  show AW _ _ _ _ ⟨sl [(3, .vec 0 (List.length l4)), (6, .pv (.slice (List.map PV.str l1))), (7, .pv (.int .i64 (l1.length : Int))), (8, .pv (.int .i64 i3))], 22, [.row 62 2 (List.map GValue.pv l4) true]⟩
  refine AW.seq ?_
  refine AW.reg hS [(3, .vec 0 (List.length l4)), (6, .pv (.slice (List.map PV.str l1))), (7, .pv (.int .i64 (l1.length : Int))), (8, .pv (.int .i64 i3)), (9, .pv (.bool (decide (i3 < (l1.length : Int)))))] [.row 62 2 (List.map GValue.pv l4) true] ?_ ?_
  · simp -implicitDefEqProofs only [RUNS, qindex, Nat.reduceAdd, Nat.reduceLeDiff, Nat.reduceSub, reduceIte, Nat.reduceEqDiff, Nat.reduceLT, reduceCtorEq, Nat.reduceMul, Nat.reduceBEq, Int.reduceEq, if_true, if_false, eq_self, ne_eq, env_bT, T_3, P31_eq, Redir.pv_eq, P154_eq, Cmd.pv_eq, P32_eq, Word.pv_eq, GValue.pv_eq, P22_eq, Var.pv_eq, P52_eq, GEnv.pv_eq, eqT_3]
  refine AW.seq ?_
  refine AW.cond (b := decide (i3 < (l1.length : Int))) rfl (fun hb8 => ?_) (fun hb8 => ?_)
  · replace h := bif_t hb8 h
    refine AW.skip ?_
    refine AW.seq ?_
    refine AW.block ?_
    refine AW.seq ?_
    replace h := Option.bind_eq_some_iff.1 h; obtain ⟨w9, q10, h⟩ := h
    have f11 := lidx_f q10
    refine AW.reg hS [(3, .vec 0 (List.length l4)), (5, .pv (.str w9)), (6, .pv (.slice (List.map PV.str l1))), (7, .pv (.int .i64 (l1.length : Int))), (8, .pv (.int .i64 i3))] [.row 62 2 (List.map GValue.pv l4) true] ?_ ?_
    · simp -implicitDefEqProofs only [RUNS, qindex, Nat.reduceAdd, Nat.reduceLeDiff, Nat.reduceSub, reduceIte, Nat.reduceEqDiff, Nat.reduceLT, reduceCtorEq, Nat.reduceMul, Nat.reduceBEq, Int.reduceEq, if_true, if_false, eq_self, ne_eq, env_bT, T_9, T_22, P31_eq, Redir.pv_eq, P154_eq, Cmd.pv_eq, P32_eq, Word.pv_eq, GValue.pv_eq, P22_eq, Var.pv_eq, P52_eq, GEnv.pv_eq, f11.1, f11.2.1]
    replace h := Option.bind_eq_some_iff.1 h; obtain ⟨t12, q13, h⟩ := h
    have f14 := c_L_Repeat [49] (w9.length : Int) t12 q13
    try dsimp only at f14
    try simp only [List.map_cons, List.map_nil, P31_eq, Redir.pv_eq, P154_eq, Cmd.pv_eq, P32_eq, Word.pv_eq, GValue.pv_eq, P22_eq, Var.pv_eq, P52_eq, GEnv.pv_eq] at f14
    replace h := Option.bind_eq_some_iff.1 h; obtain ⟨out15, q16, h⟩ := h
    have f17 := appO_f q16
    try simp only [List.length_cons, List.length_nil, Nat.zero_add, Nat.reduceAdd, Nat.reduceLeDiff, Nat.add_zero, Nat.reduceMul] at f17
    refine AW.reg hS [(3, .vec 0 (List.length out15)), (6, .pv (.slice (List.map PV.str l1))), (7, .pv (.int .i64 (l1.length : Int))), (8, .pv (.int .i64 i3))] [.row 62 2 (List.map GValue.pv out15) true] ?_ ?_
    · simp -implicitDefEqProofs only [RUNS, qindex, Nat.reduceAdd, Nat.reduceLeDiff, Nat.reduceSub, reduceIte, Nat.reduceEqDiff, Nat.reduceLT, reduceCtorEq, Nat.reduceMul, Nat.reduceBEq, Int.reduceEq, if_true, if_false, eq_self, ne_eq, env_bT, T_3, T_9, T_45, T_62, P31_eq, Redir.pv_eq, P154_eq, Cmd.pv_eq, P32_eq, Word.pv_eq, GValue.pv_eq, P22_eq, Var.pv_eq, P52_eq, GEnv.pv_eq, pf_56, f14, ownT_62, ownT_45, f17.1, f17.2, GValue.all] <;> (try simp only [List.length_take, List.length_drop, List.length_map])
    clear f17
    refine AW.reg hS [(3, .vec 0 (List.length out15)), (6, .pv (.slice (List.map PV.str l1))), (7, .pv (.int .i64 (l1.length : Int))), (8, .pv (.int .i64 (IntKind.wrap .i64 (i3 + 1))))] [.row 62 2 (List.map GValue.pv out15) true] ?_ ?_
    · simp -implicitDefEqProofs only [RUNS, qindex, Nat.reduceAdd, Nat.reduceLeDiff, Nat.reduceSub, reduceIte, Nat.reduceEqDiff, Nat.reduceLT, reduceCtorEq, Nat.reduceMul, Nat.reduceBEq, Int.reduceEq, if_true, if_false, eq_self, ne_eq, env_bT, T_3, P31_eq, Redir.pv_eq, P154_eq, Cmd.pv_eq, P32_eq, Word.pv_eq, GValue.pv_eq, P22_eq, Var.pv_eq, P52_eq, GEnv.pv_eq, eqT_3]
    exact ⟨(m7, (IntKind.wrap .i64 (i3 + 1), out15)), h, (Weak.norm (m := 1) (Nat.le_of_ble_eq_true rfl) ⟨rfl, rfl, rfl, rfl, trivial⟩ rfl rfl rfl), Nat.lt_succ_self _⟩
  · replace h := bif_f hb8 h
    refine AW.exit ?_
    refine AW.seq ?_
    refine AW.reg hS [(2, .vec 0 (List.length l4))] [.row 62 2 (List.map GValue.pv l4) true] ?_ ?_
    · simp -implicitDefEqProofs only [RUNS, qindex, Nat.reduceAdd, Nat.reduceLeDiff, Nat.reduceSub, reduceIte, Nat.reduceEqDiff, Nat.reduceLT, reduceCtorEq, Nat.reduceMul, Nat.reduceBEq, Int.reduceEq, if_true, if_false, eq_self, ne_eq, env_bT, P31_eq, Redir.pv_eq, P154_eq, Cmd.pv_eq, P32_eq, Word.pv_eq, GValue.pv_eq, P22_eq, Var.pv_eq, P52_eq, GEnv.pv_eq]
    refine AW.ret ?_
    cases h
    show finish _ _ _ _ _ = _
    first | rfl | (simp [finish, resOf, renArgs, toPV, selObjs, sl])

set_option maxHeartbeats 4000000 in
theorem g_F44 {O : Orc} (hS : Sound env O) (hpf : O.pf = pfn) (w29 : (List GEnv) → Int → Word → Option ((List GValue) × Int)) (c_w29 : C_w29 w29 O) (l1 : List GEnv) (group2 : Int) (words3 : List Word) (r4 : List GValue) (r5 : Int) (h : F44 w29 l1 group2 words3 = some (r4, r5)) : Good env 44 [.pv (.slice (List.map GEnv.pv l1)), .pv (.int .i64 group2), .pv (.slice (List.map Word.pv words3))] [] [.pv (.slice (List.map GValue.pv r4)), .pv (.int .i64 r5)] [] := by
  have pf_29 : O.pf 29 = true := by rw [hpf]; rfl
  refine Good.start (fn := Tryd.f44) (N := 37) fn_44 rfl rfl (by simp) [] _ rfl rfl ?_
  rw [F44] at h
  refine AW.seq ?_
  refine AW.reg hS [(0, .pv (.slice (List.map GEnv.pv l1))), (1, .pv (.int .i64 group2)), (2, .pv (.slice (List.map Word.pv words3)))] [] ?_ ?_
  · simp -implicitDefEqProofs only [RUNS, qindex, Nat.reduceAdd, Nat.reduceLeDiff, Nat.reduceSub, reduceIte, Nat.reduceEqDiff, Nat.reduceLT, reduceCtorEq, Nat.reduceMul, Nat.reduceBEq, Int.reduceEq, if_true, if_false, eq_self, ne_eq, env_bT, P31_eq, Redir.pv_eq, P154_eq, Cmd.pv_eq, P32_eq, Word.pv_eq, GValue.pv_eq, P22_eq, Var.pv_eq, P52_eq, GEnv.pv_eq]
  refine AW.seq ?_
  refine AW.reg hS [(0, .pv (.slice (List.map GEnv.pv l1))), (1, .pv (.int .i64 group2)), (2, .pv (.slice (List.map Word.pv words3))), (8, .nils)] [] ?_ ?_
  · simp -implicitDefEqProofs only [RUNS, qindex, Nat.reduceAdd, Nat.reduceLeDiff, Nat.reduceSub, reduceIte, Nat.reduceEqDiff, Nat.reduceLT, reduceCtorEq, Nat.reduceMul, Nat.reduceBEq, Int.reduceEq, if_true, if_false, eq_self, ne_eq, env_bT, P31_eq, Redir.pv_eq, P154_eq, Cmd.pv_eq, P32_eq, Word.pv_eq, GValue.pv_eq, P22_eq, Var.pv_eq, P52_eq, GEnv.pv_eq]
  refine AW.weak (Weak.own 8 62 2 (by decide) rfl) ?_
  refine AW.weak (Weak.slots (L := [(0, .pv (.slice (List.map GEnv.pv l1))), (1, .pv (.int .i64 group2)), (2, .pv (.slice (List.map Word.pv words3))), (8, .vec 0 (List.length ([] : List GValue)))]) ⟨rfl, rfl, rfl, rfl, trivial⟩) ?_
  refine AW.seq ?_
  refine AW.seq ?_
  refine AW.reg hS [(0, .pv (.slice (List.map GEnv.pv l1))), (1, .pv (.int .i64 group2)), (8, .vec 0 (List.length ([] : List GValue))), (13, .pv (.slice (List.map Word.pv words3))), (14, .pv (.int .i64 (words3.length : Int))), (15, .pv (.int .i64 0))] [.row 62 2 (List.map GValue.pv ([] : List GValue)) true] ?_ ?_
  · simp -implicitDefEqProofs only [RUNS, qindex, Nat.reduceAdd, Nat.reduceLeDiff, Nat.reduceSub, reduceIte, Nat.reduceEqDiff, Nat.reduceLT, reduceCtorEq, Nat.reduceMul, Nat.reduceBEq, Int.reduceEq, if_true, if_false, eq_self, ne_eq, env_bT, T_31, T_34, P31_eq, Redir.pv_eq, P154_eq, Cmd.pv_eq, P32_eq, Word.pv_eq, GValue.pv_eq, P22_eq, Var.pv_eq, P52_eq, GEnv.pv_eq]
  refine AW.block ?_
  refine AW.weak (Weak.slots (L := [(0, .pv (.slice (List.map GEnv.pv l1))), (1, .pv (.int .i64 group2)), (8, .vec 0 (List.length ([] : List GValue))), (13, .pv (.slice (List.map Word.pv words3))), (14, .pv (.int .i64 (words3.length : Int))), (15, .pv (.int .i64 0))]) ⟨rfl, rfl, rfl, rfl, rfl, rfl, trivial⟩) ?_
  refine AW.loopI (α := Nat × Int × (List GValue)) (fun (_, i6, l7) => ⟨sl [(0, .pv (.slice (List.map GEnv.pv l1))), (1, .pv (.int .i64 group2)), (8, .vec 0 (List.length l7)), (13, .pv (.slice (List.map Word.pv words3))), (14, .pv (.int .i64 (words3.length : Int))), (15, .pv (.int .i64 i6))], 37, [.row 62 2 (List.map GValue.pv l7) true]⟩) (fun x => iter (F44_b1 words3 w29 l1 group2) x.1 x.2 = some (r4, r5)) (fun x => x.1) (BIG, (0, ([] : List GValue))) h ?_
  clear h
  intro ⟨n24, i6, l7⟩ h
  replace h := iter_some h; obtain ⟨m10, rfl, h⟩ := h
  rw [F44_b1] at h
  try dsimp only at h
  show AW _ _ _ _ ⟨sl [(0, .pv (.slice (List.map GEnv.pv l1))), (1, .pv (.int .i64 group2)), (8, .vec 0 (List.length l7)), (13, .pv (.slice (List.map Word.pv words3))), (14, .pv (.int .i64 (words3.length : Int))), (15, .pv (.int .i64 i6))], 37, [.row 62 2 (List.map GValue.pv l7) true]⟩
  refine AW.seq ?_
  refine AW.reg hS [(0, .pv (.slice (List.map GEnv.pv l1))), (1, .pv (.int .i64 group2)), (8, .vec 0 (List.length l7)), (13, .pv (.slice (List.map Word.pv words3))), (14, .pv (.int .i64 (words3.length : Int))), (15, .pv (.int .i64 i6)), (16, .pv (.bool (decide (i6 < (words3.length : Int)))))] [.row 62 2 (List.map GValue.pv l7) true] ?_ ?_
  · simp -implicitDefEqProofs only [RUNS, qindex, Nat.reduceAdd, Nat.reduceLeDiff, Nat.reduceSub, reduceIte, Nat.reduceEqDiff, Nat.reduceLT, reduceCtorEq, Nat.reduceMul, Nat.reduceBEq, Int.reduceEq, if_true, if_false, eq_self, ne_eq, env_bT, T_3, P31_eq, Redir.pv_eq, P154_eq, Cmd.pv_eq, P32_eq, Word.pv_eq, GValue.pv_eq, P22_eq, Var.pv_eq, P52_eq, GEnv.pv_eq, eqT_3]
  refine AW.seq ?_
  refine AW.cond (b := decide (i6 < (words3.length : Int))) rfl (fun hb11 => ?_) (fun hb11 => ?_)
  · replace h := bif_t hb11 h
    refine AW.skip ?_
    refine AW.seq ?_
    refine AW.block ?_
    refine AW.seq ?_
    replace h := Option.bind_eq_some_iff.1 h; obtain ⟨u12, q13, h⟩ := h
    have f14 := lidx_f q13
    refine AW.reg hS [(0, .pv (.slice (List.map GEnv.pv l1))), (1, .pv (.int .i64 group2)), (8, .vec 0 (List.length l7)), (10, .ref 1 0), (13, .pv (.slice (List.map Word.pv words3))), (14, .pv (.int .i64 (words3.length : Int))), (15, .pv (.int .i64 i6))] [.row 62 2 (List.map GValue.pv l7) true, .var [.pv (.int .i64 u12.kind_), .pv (.str u12.text_), .pv (.str u12.quoted_), .pv (.slice (List.map Word.pv u12.words_)), .pv (.slice (List.map Cmd.pv u12.cmd_))]] ?_ ?_
    · simp -implicitDefEqProofs only [RUNS, qindex, Nat.reduceAdd, Nat.reduceLeDiff, Nat.reduceSub, reduceIte, Nat.reduceEqDiff, Nat.reduceLT, reduceCtorEq, Nat.reduceMul, Nat.reduceBEq, Int.reduceEq, if_true, if_false, eq_self, ne_eq, env_bT, T_31, T_34, P31_eq, Redir.pv_eq, P154_eq, Cmd.pv_eq, P32_eq, Word.pv_eq, GValue.pv_eq, P22_eq, Var.pv_eq, P52_eq, GEnv.pv_eq, f14.1, f14.2.1]
    refine AW.seq ?_
    replace h := Option.bind_eq_some_iff.1 h; obtain ⟨⟨r15, r16⟩, q17, h⟩ := h
    dsimp only at h
    have f18 := c_w29 l1 group2 u12 r15 r16 q17
    try dsimp only at f18
    refine AW.reg hS [(0, .pv (.slice (List.map GEnv.pv l1))), (1, .pv (.int .i64 group2)), (8, .vec 0 (List.length l7)), (11, .pv (.slice (List.map GValue.pv r15))), (12, .pv (.int .i64 r16)), (13, .pv (.slice (List.map Word.pv words3))), (14, .pv (.int .i64 (words3.length : Int))), (15, .pv (.int .i64 i6))] [.row 62 2 (List.map GValue.pv l7) true, .var [.pv (.int .i64 u12.kind_), .pv (.str u12.text_), .pv (.str u12.quoted_), .pv (.slice (List.map Word.pv u12.words_)), .pv (.slice (List.map Cmd.pv u12.cmd_))]] ?_ ?_
    · simp -implicitDefEqProofs only [RUNS, qindex, Nat.reduceAdd, Nat.reduceLeDiff, Nat.reduceSub, reduceIte, Nat.reduceEqDiff, Nat.reduceLT, reduceCtorEq, Nat.reduceMul, Nat.reduceBEq, Int.reduceEq, if_true, if_false, eq_self, ne_eq, env_bT, T_3, T_30, T_34, T_54, P31_eq, Redir.pv_eq, P154_eq, Cmd.pv_eq, P32_eq, Word.pv_eq, GValue.pv_eq, P22_eq, Var.pv_eq, P52_eq, GEnv.pv_eq, pf_29, f18]
    refine AW.seq ?_
    refine AW.seq ?_
    refine AW.reg hS [(0, .pv (.slice (List.map GEnv.pv l1))), (1, .pv (.int .i64 group2)), (8, .vec 0 (List.length l7)), (11, .pv (.slice (List.map GValue.pv r15))), (12, .pv (.int .i64 r16)), (13, .pv (.slice (List.map Word.pv words3))), (14, .pv (.int .i64 (words3.length : Int))), (15, .pv (.int .i64 i6)), (27, .pv (.bool (!decide (r16 = 0))))] [.row 62 2 (List.map GValue.pv l7) true, .var [.pv (.int .i64 u12.kind_), .pv (.str u12.text_), .pv (.str u12.quoted_), .pv (.slice (List.map Word.pv u12.words_)), .pv (.slice (List.map Cmd.pv u12.cmd_))]] ?_ ?_
    · simp -implicitDefEqProofs only [RUNS, qindex, Nat.reduceAdd, Nat.reduceLeDiff, Nat.reduceSub, reduceIte, Nat.reduceEqDiff, Nat.reduceLT, reduceCtorEq, Nat.reduceMul, Nat.reduceBEq, Int.reduceEq, if_true, if_false, eq_self, ne_eq, env_bT, T_25, P31_eq, Redir.pv_eq, P154_eq, Cmd.pv_eq, P32_eq, Word.pv_eq, GValue.pv_eq, P22_eq, Var.pv_eq, P52_eq, GEnv.pv_eq, eqT_25]
    refine AW.cond (b := !decide (r16 = 0)) rfl (fun hb19 => ?_) (fun hb19 => ?_)
    · replace h := bif_t hb19 h
      refine AW.seq ?_
      refine AW.reg hS [(6, .nils), (7, .pv (.int .i64 r16))] [.row 62 2 (List.map GValue.pv l7) true, .var [.pv (.int .i64 u12.kind_), .pv (.str u12.text_), .pv (.str u12.quoted_), .pv (.slice (List.map Word.pv u12.words_)), .pv (.slice (List.map Cmd.pv u12.cmd_))]] ?_ ?_
      · simp -implicitDefEqProofs only [RUNS, qindex, Nat.reduceAdd, Nat.reduceLeDiff, Nat.reduceSub, reduceIte, Nat.reduceEqDiff, Nat.reduceLT, reduceCtorEq, Nat.reduceMul, Nat.reduceBEq, Int.reduceEq, if_true, if_false, eq_self, ne_eq, env_bT, P31_eq, Redir.pv_eq, P154_eq, Cmd.pv_eq, P32_eq, Word.pv_eq, GValue.pv_eq, P22_eq, Var.pv_eq, P52_eq, GEnv.pv_eq]
      refine AW.ret ?_
      cases h
      show finish _ _ _ _ _ = _
      first | rfl | (simp [finish, resOf, renArgs, toPV, selObjs, sl])
    · replace h := bif_f hb19 h
      refine AW.skip ?_
      refine AW.seq ?_
      replace h := Option.bind_eq_some_iff.1 h; obtain ⟨out20, q21, h⟩ := h
      have f22 := appO_f q21
      try simp only [List.length_cons, List.length_nil, Nat.zero_add, Nat.reduceAdd, Nat.reduceLeDiff, Nat.add_zero, Nat.reduceMul] at f22
      refine AW.reg hS [(0, .pv (.slice (List.map GEnv.pv l1))), (1, .pv (.int .i64 group2)), (8, .vec 0 (List.length out20)), (13, .pv (.slice (List.map Word.pv words3))), (14, .pv (.int .i64 (words3.length : Int))), (15, .pv (.int .i64 i6))] [.row 62 2 (List.map GValue.pv out20) true, .var [.pv (.int .i64 u12.kind_), .pv (.str u12.text_), .pv (.str u12.quoted_), .pv (.slice (List.map Word.pv u12.words_)), .pv (.slice (List.map Cmd.pv u12.cmd_))]] ?_ ?_
      · simp -implicitDefEqProofs only [RUNS, qindex, Nat.reduceAdd, Nat.reduceLeDiff, Nat.reduceSub, reduceIte, Nat.reduceEqDiff, Nat.reduceLT, reduceCtorEq, Nat.reduceMul, Nat.reduceBEq, Int.reduceEq, if_true, if_false, eq_self, ne_eq, env_bT, T_45, T_62, P31_eq, Redir.pv_eq, P154_eq, Cmd.pv_eq, P32_eq, Word.pv_eq, GValue.pv_eq, P22_eq, Var.pv_eq, P52_eq, GEnv.pv_eq, f22.1, f22.2, GValue.all] <;> (try simp only [List.length_take, List.length_drop, List.length_map])
      clear f22
      refine AW.seq ?_
      refine AW.reg hS [(0, .pv (.slice (List.map GEnv.pv l1))), (1, .pv (.int .i64 group2)), (8, .vec 0 (List.length out20)), (13, .pv (.slice (List.map Word.pv words3))), (14, .pv (.int .i64 (words3.length : Int))), (15, .pv (.int .i64 i6)), (34, .pv (.bool (decide (256 < (out20.length : Int)))))] [.row 62 2 (List.map GValue.pv out20) true, .var [.pv (.int .i64 u12.kind_), .pv (.str u12.text_), .pv (.str u12.quoted_), .pv (.slice (List.map Word.pv u12.words_)), .pv (.slice (List.map Cmd.pv u12.cmd_))]] ?_ ?_
      · simp -implicitDefEqProofs only [RUNS, qindex, Nat.reduceAdd, Nat.reduceLeDiff, Nat.reduceSub, reduceIte, Nat.reduceEqDiff, Nat.reduceLT, reduceCtorEq, Nat.reduceMul, Nat.reduceBEq, Int.reduceEq, if_true, if_false, eq_self, ne_eq, env_bT, T_3, T_45, T_62, P31_eq, Redir.pv_eq, P154_eq, Cmd.pv_eq, P32_eq, Word.pv_eq, GValue.pv_eq, P22_eq, Var.pv_eq, P52_eq, GEnv.pv_eq, eqT_3]
      refine AW.cond (b := decide (256 < (out20.length : Int))) rfl (fun hb23 => ?_) (fun hb23 => ?_)
      · replace h := bif_t hb23 h
        refine AW.seq ?_
        refine AW.reg hS [(6, .nils), (7, .pv (.int .i64 22))] [.row 62 2 (List.map GValue.pv out20) true, .var [.pv (.int .i64 u12.kind_), .pv (.str u12.text_), .pv (.str u12.quoted_), .pv (.slice (List.map Word.pv u12.words_)), .pv (.slice (List.map Cmd.pv u12.cmd_))]] ?_ ?_
        · simp -implicitDefEqProofs only [RUNS, qindex, Nat.reduceAdd, Nat.reduceLeDiff, Nat.reduceSub, reduceIte, Nat.reduceEqDiff, Nat.reduceLT, reduceCtorEq, Nat.reduceMul, Nat.reduceBEq, Int.reduceEq, if_true, if_false, eq_self, ne_eq, env_bT, P31_eq, Redir.pv_eq, P154_eq, Cmd.pv_eq, P32_eq, Word.pv_eq, GValue.pv_eq, P22_eq, Var.pv_eq, P52_eq, GEnv.pv_eq]
        refine AW.ret ?_
        cases h
        show finish _ _ _ _ _ = _
        first | rfl | (simp [finish, resOf, renArgs, toPV, selObjs, sl])
      · replace h := bif_f hb23 h
        refine AW.skip ?_
        refine AW.reg hS [(0, .pv (.slice (List.map GEnv.pv l1))), (1, .pv (.int .i64 group2)), (8, .vec 0 (List.length out20)), (13, .pv (.slice (List.map Word.pv words3))), (14, .pv (.int .i64 (words3.length : Int))), (15, .pv (.int .i64 (IntKind.wrap .i64 (i6 + 1))))] [.row 62 2 (List.map GValue.pv out20) true, .var [.pv (.int .i64 u12.kind_), .pv (.str u12.text_), .pv (.str u12.quoted_), .pv (.slice (List.map Word.pv u12.words_)), .pv (.slice (List.map Cmd.pv u12.cmd_))]] ?_ ?_
        · simp -implicitDefEqProofs only [RUNS, qindex, Nat.reduceAdd, Nat.reduceLeDiff, Nat.reduceSub, reduceIte, Nat.reduceEqDiff, Nat.reduceLT, reduceCtorEq, Nat.reduceMul, Nat.reduceBEq, Int.reduceEq, if_true, if_false, eq_self, ne_eq, env_bT, T_3, P31_eq, Redir.pv_eq, P154_eq, Cmd.pv_eq, P32_eq, Word.pv_eq, GValue.pv_eq, P22_eq, Var.pv_eq, P52_eq, GEnv.pv_eq, eqT_3]
        exact ⟨(m10, (IntKind.wrap .i64 (i6 + 1), out20)), h, (Weak.norm (m := 1) (Nat.le_of_ble_eq_true rfl) ⟨rfl, rfl, rfl, rfl, rfl, rfl, trivial⟩ rfl rfl rfl), Nat.lt_succ_self _⟩
  · replace h := bif_f hb11 h
    refine AW.exit ?_
    refine AW.seq ?_
    refine AW.reg hS [(6, .vec 0 (List.length l7)), (7, .pv (.int .i64 0))] [.row 62 2 (List.map GValue.pv l7) true] ?_ ?_
    · simp -implicitDefEqProofs only [RUNS, qindex, Nat.reduceAdd, Nat.reduceLeDiff, Nat.reduceSub, reduceIte, Nat.reduceEqDiff, Nat.reduceLT, reduceCtorEq, Nat.reduceMul, Nat.reduceBEq, Int.reduceEq, if_true, if_false, eq_self, ne_eq, env_bT, P31_eq, Redir.pv_eq, P154_eq, Cmd.pv_eq, P32_eq, Word.pv_eq, GValue.pv_eq, P22_eq, Var.pv_eq, P52_eq, GEnv.pv_eq]
    refine AW.ret ?_
    cases h
    show finish _ _ _ _ _ = _
    first | rfl | (simp [finish, resOf, renArgs, toPV, selObjs, sl])

set_option maxHeartbeats 4000000 in
theorem g_F11 {O : Orc} (hS : Sound env O) (hpf : O.pf = pfn) (c_F24 : C_F24 O) (l1 : List Str) (idx2 : List Str) (r3 : List Str) (r4 : Int) (h : F11 l1 idx2 = some (r3, r4)) : Good env 11 [.pv (.slice (List.map PV.str l1)), .pv (.slice (List.map PV.str idx2))] [] [.pv (.slice (List.map PV.str r3)), .pv (.int .i64 r4)] [] := by
  have pf_24 : O.pf 24 = true := by rw [hpf]; rfl
  refine Good.start (fn := Tryd.f11) (N := 38) fn_11 rfl rfl (by simp) [] _ rfl rfl ?_
  rw [F11] at h
  refine AW.seq ?_
  refine AW.reg hS [(0, .pv (.slice (List.map PV.str l1))), (1, .pv (.slice (List.map PV.str idx2)))] [] ?_ ?_
  · simp -implicitDefEqProofs only [RUNS, qindex, Nat.reduceAdd, Nat.reduceLeDiff, Nat.reduceSub, reduceIte, Nat.reduceEqDiff, Nat.reduceLT, reduceCtorEq, Nat.reduceMul, Nat.reduceBEq, Int.reduceEq, if_true, if_false, eq_self, ne_eq, env_bT, P31_eq, Redir.pv_eq, P154_eq, Cmd.pv_eq, P32_eq, Word.pv_eq, GValue.pv_eq, P22_eq, Var.pv_eq, P52_eq, GEnv.pv_eq]
  refine AW.seq ?_
  refine AW.reg hS [(0, .pv (.slice (List.map PV.str l1))), (1, .pv (.slice (List.map PV.str idx2))), (6, .nils)] [] ?_ ?_
  · simp -implicitDefEqProofs only [RUNS, qindex, Nat.reduceAdd, Nat.reduceLeDiff, Nat.reduceSub, reduceIte, Nat.reduceEqDiff, Nat.reduceLT, reduceCtorEq, Nat.reduceMul, Nat.reduceBEq, Int.reduceEq, if_true, if_false, eq_self, ne_eq, env_bT, P31_eq, Redir.pv_eq, P154_eq, Cmd.pv_eq, P32_eq, Word.pv_eq, GValue.pv_eq, P22_eq, Var.pv_eq, P52_eq, GEnv.pv_eq]
  refine AW.weak (Weak.own 6 9 1 (by decide) rfl) ?_
  refine AW.weak (Weak.slots (L := [(0, .pv (.slice (List.map PV.str l1))), (1, .pv (.slice (List.map PV.str idx2))), (6, .vec 0 (List.length ([] : List Str)))]) ⟨rfl, rfl, rfl, trivial⟩) ?_
  refine AW.seq ?_
  refine AW.seq ?_
  refine AW.reg hS [(0, .pv (.slice (List.map PV.str l1))), (6, .vec 0 (List.length ([] : List Str))), (11, .pv (.slice (List.map PV.str idx2))), (12, .pv (.int .i64 (idx2.length : Int))), (13, .pv (.int .i64 0))] [.row 9 1 (List.map PV.str ([] : List Str)) true] ?_ ?_
  · simp -implicitDefEqProofs only [RUNS, qindex, Nat.reduceAdd, Nat.reduceLeDiff, Nat.reduceSub, reduceIte, Nat.reduceEqDiff, Nat.reduceLT, reduceCtorEq, Nat.reduceMul, Nat.reduceBEq, Int.reduceEq, if_true, if_false, eq_self, ne_eq, env_bT, T_9, T_22, P31_eq, Redir.pv_eq, P154_eq, Cmd.pv_eq, P32_eq, Word.pv_eq, GValue.pv_eq, P22_eq, Var.pv_eq, P52_eq, GEnv.pv_eq]
  refine AW.block ?_
  refine AW.weak (Weak.slots (L := [(0, .pv (.slice (List.map PV.str l1))), (6, .vec 0 (List.length ([] : List Str))), (11, .pv (.slice (List.map PV.str idx2))), (12, .pv (.int .i64 (idx2.length : Int))), (13, .pv (.int .i64 0))]) ⟨rfl, rfl, rfl, rfl, rfl, trivial⟩) ?_
  refine AW.loopI (α := Nat × Int × (List Str)) (fun (_, i5, l6) => ⟨sl [(0, .pv (.slice (List.map PV.str l1))), (6, .vec 0 (List.length l6)), (11, .pv (.slice (List.map PV.str idx2))), (12, .pv (.int .i64 (idx2.length : Int))), (13, .pv (.int .i64 i5))], 38, [.row 9 1 (List.map PV.str l6) true]⟩) (fun x => iter (F11_b1 idx2 l1) x.1 x.2 = some (r3, r4)) (fun x => x.1) (BIG, (0, ([] : List Str))) h ?_
  clear h
  intro ⟨n26, i5, l6⟩ h
  replace h := iter_some h; obtain ⟨m9, rfl, h⟩ := h
  rw [F11_b1] at h
  try dsimp only at h
  show AW _ _ _ _ ⟨sl [(0, .pv (.slice (List.map PV.str l1))), (6, .vec 0 (List.length l6)), (11, .pv (.slice (List.map PV.str idx2))), (12, .pv (.int .i64 (idx2.length : Int))), (13, .pv (.int .i64 i5))], 38, [.row 9 1 (List.map PV.str l6) true]⟩
  refine AW.seq ?_
  refine AW.reg hS [(0, .pv (.slice (List.map PV.str l1))), (6, .vec 0 (List.length l6)), (11, .pv (.slice (List.map PV.str idx2))), (12, .pv (.int .i64 (idx2.length : Int))), (13, .pv (.int .i64 i5)), (14, .pv (.bool (decide (i5 < (idx2.length : Int)))))] [.row 9 1 (List.map PV.str l6) true] ?_ ?_
  · simp -implicitDefEqProofs only [RUNS, qindex, Nat.reduceAdd, Nat.reduceLeDiff, Nat.reduceSub, reduceIte, Nat.reduceEqDiff, Nat.reduceLT, reduceCtorEq, Nat.reduceMul, Nat.reduceBEq, Int.reduceEq, if_true, if_false, eq_self, ne_eq, env_bT, T_3, P31_eq, Redir.pv_eq, P154_eq, Cmd.pv_eq, P32_eq, Word.pv_eq, GValue.pv_eq, P22_eq, Var.pv_eq, P52_eq, GEnv.pv_eq, eqT_3]
  refine AW.seq ?_
  refine AW.cond (b := decide (i5 < (idx2.length : Int))) rfl (fun hb10 => ?_) (fun hb10 => ?_)
  · replace h := bif_t hb10 h
    refine AW.skip ?_
    refine AW.seq ?_
    refine AW.block ?_
    refine AW.seq ?_
    replace h := Option.bind_eq_some_iff.1 h; obtain ⟨w11, q12, h⟩ := h
    have f13 := lidx_f q12
    refine AW.reg hS [(0, .pv (.slice (List.map PV.str l1))), (6, .vec 0 (List.length l6)), (8, .pv (.str w11)), (11, .pv (.slice (List.map PV.str idx2))), (12, .pv (.int .i64 (idx2.length : Int))), (13, .pv (.int .i64 i5))] [.row 9 1 (List.map PV.str l6) true] ?_ ?_
    · simp -implicitDefEqProofs only [RUNS, qindex, Nat.reduceAdd, Nat.reduceLeDiff, Nat.reduceSub, reduceIte, Nat.reduceEqDiff, Nat.reduceLT, reduceCtorEq, Nat.reduceMul, Nat.reduceBEq, Int.reduceEq, if_true, if_false, eq_self, ne_eq, env_bT, T_9, T_22, P31_eq, Redir.pv_eq, P154_eq, Cmd.pv_eq, P32_eq, Word.pv_eq, GValue.pv_eq, P22_eq, Var.pv_eq, P52_eq, GEnv.pv_eq, f13.1, f13.2.1]
    refine AW.seq ?_
    replace h := Option.bind_eq_some_iff.1 h; obtain ⟨⟨r14, r15⟩, q16, h⟩ := h
    dsimp only at h
    have f17 := c_F24 w11 r14 r15 q16
    try dsimp only at f17
    refine AW.reg hS [(0, .pv (.slice (List.map PV.str l1))), (6, .vec 0 (List.length l6)), (9, .pv (.int .i64 r14)), (10, .pv (.bool r15)), (11, .pv (.slice (List.map PV.str idx2))), (12, .pv (.int .i64 (idx2.length : Int))), (13, .pv (.int .i64 i5))] [.row 9 1 (List.map PV.str l6) true] ?_ ?_
    · simp -implicitDefEqProofs only [RUNS, qindex, Nat.reduceAdd, Nat.reduceLeDiff, Nat.reduceSub, reduceIte, Nat.reduceEqDiff, Nat.reduceLT, reduceCtorEq, Nat.reduceMul, Nat.reduceBEq, Int.reduceEq, if_true, if_false, eq_self, ne_eq, env_bT, T_9, P31_eq, Redir.pv_eq, P154_eq, Cmd.pv_eq, P32_eq, Word.pv_eq, GValue.pv_eq, P22_eq, Var.pv_eq, P52_eq, GEnv.pv_eq, pf_24, f17]
    refine AW.seq ?_
    refine AW.seq ?_
    refine AW.reg hS [(0, .pv (.slice (List.map PV.str l1))), (6, .vec 0 (List.length l6)), (9, .pv (.int .i64 r14)), (11, .pv (.slice (List.map PV.str idx2))), (12, .pv (.int .i64 (idx2.length : Int))), (13, .pv (.int .i64 i5)), (23, .pv (.bool (!r15)))] [.row 9 1 (List.map PV.str l6) true] ?_ ?_
    · simp -implicitDefEqProofs only [RUNS, qindex, Nat.reduceAdd, Nat.reduceLeDiff, Nat.reduceSub, reduceIte, Nat.reduceEqDiff, Nat.reduceLT, reduceCtorEq, Nat.reduceMul, Nat.reduceBEq, Int.reduceEq, if_true, if_false, eq_self, ne_eq, env_bT, P31_eq, Redir.pv_eq, P154_eq, Cmd.pv_eq, P32_eq, Word.pv_eq, GValue.pv_eq, P22_eq, Var.pv_eq, P52_eq, GEnv.pv_eq]
    refine AW.cond (b := !r15) rfl (fun hb18 => ?_) (fun hb18 => ?_)
    · replace h := bif_t hb18 h
      refine AW.seq ?_
      refine AW.reg hS [(4, .nils), (5, .pv (.int .i64 5))] [.row 9 1 (List.map PV.str l6) true] ?_ ?_
      · simp -implicitDefEqProofs only [RUNS, qindex, Nat.reduceAdd, Nat.reduceLeDiff, Nat.reduceSub, reduceIte, Nat.reduceEqDiff, Nat.reduceLT, reduceCtorEq, Nat.reduceMul, Nat.reduceBEq, Int.reduceEq, if_true, if_false, eq_self, ne_eq, env_bT, P31_eq, Redir.pv_eq, P154_eq, Cmd.pv_eq, P32_eq, Word.pv_eq, GValue.pv_eq, P22_eq, Var.pv_eq, P52_eq, GEnv.pv_eq]
      refine AW.ret ?_
      cases h
      show finish _ _ _ _ _ = _
      first | rfl | (simp [finish, resOf, renArgs, toPV, selObjs, sl])
    · replace h := bif_f hb18 h
      refine AW.skip ?_
      refine AW.seq ?_
      refine AW.reg hS [(0, .pv (.slice (List.map PV.str l1))), (6, .vec 0 (List.length l6)), (9, .pv (.int .i64 r14)), (11, .pv (.slice (List.map PV.str idx2))), (12, .pv (.int .i64 (idx2.length : Int))), (13, .pv (.int .i64 i5)), (27, .pv (.bool (decide (r14 ≤ (l1.length : Int)))))] [.row 9 1 (List.map PV.str l6) true] ?_ ?_
      · simp -implicitDefEqProofs only [RUNS, qindex, Nat.reduceAdd, Nat.reduceLeDiff, Nat.reduceSub, reduceIte, Nat.reduceEqDiff, Nat.reduceLT, reduceCtorEq, Nat.reduceMul, Nat.reduceBEq, Int.reduceEq, if_true, if_false, eq_self, ne_eq, env_bT, T_3, T_9, T_22, P31_eq, Redir.pv_eq, P154_eq, Cmd.pv_eq, P32_eq, Word.pv_eq, GValue.pv_eq, P22_eq, Var.pv_eq, P52_eq, GEnv.pv_eq, eqT_3]
      refine AW.cond (b := decide (r14 ≤ (l1.length : Int))) rfl (fun hb19 => ?_) (fun hb19 => ?_)
      · replace h := bif_t hb19 h
        replace h := Option.bind_eq_some_iff.1 h; obtain ⟨w20, q21, h⟩ := h
        have f22 := lidx_f q21
        replace h := Option.bind_eq_some_iff.1 h; obtain ⟨out23, q24, h⟩ := h
        have f25 := appO_f q24
        try simp only [List.length_cons, List.length_nil, Nat.zero_add, Nat.reduceAdd, Nat.reduceLeDiff, Nat.add_zero, Nat.reduceMul] at f25
        refine AW.reg hS [(0, .pv (.slice (List.map PV.str l1))), (6, .vec 0 (List.length out23)), (11, .pv (.slice (List.map PV.str idx2))), (12, .pv (.int .i64 (idx2.length : Int))), (13, .pv (.int .i64 i5))] [.row 9 1 (List.map PV.str out23) true] ?_ ?_
        · simp -implicitDefEqProofs only [RUNS, qindex, Nat.reduceAdd, Nat.reduceLeDiff, Nat.reduceSub, reduceIte, Nat.reduceEqDiff, Nat.reduceLT, reduceCtorEq, Nat.reduceMul, Nat.reduceBEq, Int.reduceEq, if_true, if_false, eq_self, ne_eq, env_bT, T_3, T_9, T_22, P31_eq, Redir.pv_eq, P154_eq, Cmd.pv_eq, P32_eq, Word.pv_eq, GValue.pv_eq, P22_eq, Var.pv_eq, P52_eq, GEnv.pv_eq, eqT_3, f22.1, f22.2.1, ownT_22, f25.1, f25.2, str_all] <;> (try simp only [List.length_take, List.length_drop, List.length_map])
        clear f25
        refine AW.reg hS [(0, .pv (.slice (List.map PV.str l1))), (6, .vec 0 (List.length out23)), (11, .pv (.slice (List.map PV.str idx2))), (12, .pv (.int .i64 (idx2.length : Int))), (13, .pv (.int .i64 (IntKind.wrap .i64 (i5 + 1))))] [.row 9 1 (List.map PV.str out23) true] ?_ ?_
        · simp -implicitDefEqProofs only [RUNS, qindex, Nat.reduceAdd, Nat.reduceLeDiff, Nat.reduceSub, reduceIte, Nat.reduceEqDiff, Nat.reduceLT, reduceCtorEq, Nat.reduceMul, Nat.reduceBEq, Int.reduceEq, if_true, if_false, eq_self, ne_eq, env_bT, T_3, P31_eq, Redir.pv_eq, P154_eq, Cmd.pv_eq, P32_eq, Word.pv_eq, GValue.pv_eq, P22_eq, Var.pv_eq, P52_eq, GEnv.pv_eq, eqT_3]
        exact ⟨(m9, (IntKind.wrap .i64 (i5 + 1), out23)), h, (Weak.norm (m := 1) (Nat.le_of_ble_eq_true rfl) ⟨rfl, rfl, rfl, rfl, rfl, trivial⟩ rfl rfl rfl), Nat.lt_succ_self _⟩
      · replace h := bif_f hb19 h
        refine AW.skip ?_
        refine AW.reg hS [(0, .pv (.slice (List.map PV.str l1))), (6, .vec 0 (List.length l6)), (11, .pv (.slice (List.map PV.str idx2))), (12, .pv (.int .i64 (idx2.length : Int))), (13, .pv (.int .i64 (IntKind.wrap .i64 (i5 + 1))))] [.row 9 1 (List.map PV.str l6) true] ?_ ?_
        · simp -implicitDefEqProofs only [RUNS, qindex, Nat.reduceAdd, Nat.reduceLeDiff, Nat.reduceSub, reduceIte, Nat.reduceEqDiff, Nat.reduceLT, reduceCtorEq, Nat.reduceMul, Nat.reduceBEq, Int.reduceEq, if_true, if_false, eq_self, ne_eq, env_bT, T_3, P31_eq, Redir.pv_eq, P154_eq, Cmd.pv_eq, P32_eq, Word.pv_eq, GValue.pv_eq, P22_eq, Var.pv_eq, P52_eq, GEnv.pv_eq, eqT_3]
        exact ⟨(m9, (IntKind.wrap .i64 (i5 + 1), l6)), h, (Weak.norm (m := 1) (Nat.le_of_ble_eq_true rfl) ⟨rfl, rfl, rfl, rfl, rfl, trivial⟩ rfl rfl rfl), Nat.lt_succ_self _⟩
  · replace h := bif_f hb10 h
    refine AW.exit ?_
    refine AW.seq ?_
    refine AW.reg hS [(4, .vec 0 (List.length l6)), (5, .pv (.int .i64 0))] [.row 9 1 (List.map PV.str l6) true] ?_ ?_
    · simp -implicitDefEqProofs only [RUNS, qindex, Nat.reduceAdd, Nat.reduceLeDiff, Nat.reduceSub, reduceIte, Nat.reduceEqDiff, Nat.reduceLT, reduceCtorEq, Nat.reduceMul, Nat.reduceBEq, Int.reduceEq, if_true, if_false, eq_self, ne_eq, env_bT, P31_eq, Redir.pv_eq, P154_eq, Cmd.pv_eq, P32_eq, Word.pv_eq, GValue.pv_eq, P22_eq, Var.pv_eq, P52_eq, GEnv.pv_eq]
    refine AW.ret ?_
    cases h
    show finish _ _ _ _ _ = _
    first | rfl | (simp [finish, resOf, renArgs, toPV, selObjs, sl])

set_option maxHeartbeats 4000000 in
theorem g_F45 {O : Orc} (hS : Sound env O) (hpf : O.pf = pfn) (w29 : (List GEnv) → Int → Word → Option ((List GValue) × Int)) (c_w29 : C_w29 w29 O) (c_F21 : C_F21 O) (l1 : List GEnv) (group2 : Int) (words3 : List Word) (r4 : List GValue) (r5 : Int) (h : F45 w29 l1 group2 words3 = some (r4, r5)) : Good env 45 [.pv (.slice (List.map GEnv.pv l1)), .pv (.int .i64 group2), .pv (.slice (List.map Word.pv words3))] [] [.pv (.slice (List.map GValue.pv r4)), .pv (.int .i64 r5)] [] := by
  have pf_21 : O.pf 21 = true := by rw [hpf]; rfl
  have pf_29 : O.pf 29 = true := by rw [hpf]; rfl
  refine Good.start (fn := Tryd.f45) (N := 45) fn_45 rfl rfl (by simp) [] _ rfl rfl ?_
  rw [F45] at h
  refine AW.seq ?_
  refine AW.reg hS [(0, .pv (.slice (List.map GEnv.pv l1))), (1, .pv (.int .i64 group2)), (2, .pv (.slice (List.map Word.pv words3)))] [] ?_ ?_
  · simp -implicitDefEqProofs only [RUNS, qindex, Nat.reduceAdd, Nat.reduceLeDiff, Nat.reduceSub, reduceIte, Nat.reduceEqDiff, Nat.reduceLT, reduceCtorEq, Nat.reduceMul, Nat.reduceBEq, Int.reduceEq, if_true, if_false, eq_self, ne_eq, env_bT, P31_eq, Redir.pv_eq, P154_eq, Cmd.pv_eq, P32_eq, Word.pv_eq, GValue.pv_eq, P22_eq, Var.pv_eq, P52_eq, GEnv.pv_eq]
  refine AW.seq ?_
  refine AW.reg hS [(0, .pv (.slice (List.map GEnv.pv l1))), (1, .pv (.int .i64 group2)), (2, .pv (.slice (List.map Word.pv words3))), (8, .nils)] [] ?_ ?_
  · simp -implicitDefEqProofs only [RUNS, qindex, Nat.reduceAdd, Nat.reduceLeDiff, Nat.reduceSub, reduceIte, Nat.reduceEqDiff, Nat.reduceLT, reduceCtorEq, Nat.reduceMul, Nat.reduceBEq, Int.reduceEq, if_true, if_false, eq_self, ne_eq, env_bT, P31_eq, Redir.pv_eq, P154_eq, Cmd.pv_eq, P32_eq, Word.pv_eq, GValue.pv_eq, P22_eq, Var.pv_eq, P52_eq, GEnv.pv_eq]
  refine AW.weak (Weak.nilPV 8 rfl) ?_
  refine AW.weak (Weak.slots (L := [(0, .pv (.slice (List.map GEnv.pv l1))), (1, .pv (.int .i64 group2)), (2, .pv (.slice (List.map Word.pv words3))), (8, .pv (.slice (List.map GValue.pv ([] : List GValue))))]) ⟨rfl, rfl, rfl, rfl, trivial⟩) ?_
  refine AW.seq ?_
  refine AW.seq ?_
  refine AW.reg hS [(0, .pv (.slice (List.map GEnv.pv l1))), (1, .pv (.int .i64 group2)), (8, .pv (.slice (List.map GValue.pv ([] : List GValue)))), (13, .pv (.slice (List.map Word.pv words3))), (14, .pv (.int .i64 (words3.length : Int))), (15, .pv (.int .i64 0))] [] ?_ ?_
  · simp -implicitDefEqProofs only [RUNS, qindex, Nat.reduceAdd, Nat.reduceLeDiff, Nat.reduceSub, reduceIte, Nat.reduceEqDiff, Nat.reduceLT, reduceCtorEq, Nat.reduceMul, Nat.reduceBEq, Int.reduceEq, if_true, if_false, eq_self, ne_eq, env_bT, T_31, T_34, P31_eq, Redir.pv_eq, P154_eq, Cmd.pv_eq, P32_eq, Word.pv_eq, GValue.pv_eq, P22_eq, Var.pv_eq, P52_eq, GEnv.pv_eq]
  refine AW.block ?_
  refine AW.weak (Weak.slots (L := [(0, .pv (.slice (List.map GEnv.pv l1))), (1, .pv (.int .i64 group2)), (8, .pv (.slice (List.map GValue.pv ([] : List GValue)))), (13, .pv (.slice (List.map Word.pv words3))), (14, .pv (.int .i64 (words3.length : Int))), (15, .pv (.int .i64 0))]) ⟨rfl, rfl, rfl, rfl, rfl, rfl, trivial⟩) ?_
  refine AW.loopI (α := Nat × (List GValue) × Int) (fun (_, out6, i7) => ⟨sl [(0, .pv (.slice (List.map GEnv.pv l1))), (1, .pv (.int .i64 group2)), (8, .pv (.slice (List.map GValue.pv out6))), (13, .pv (.slice (List.map Word.pv words3))), (14, .pv (.int .i64 (words3.length : Int))), (15, .pv (.int .i64 i7))], 45, []⟩) (fun x => iter (F45_b2 words3 w29 l1 group2) x.1 x.2 = some (r4, r5)) (fun x => x.1) (BIG, (([] : List GValue), 0)) h ?_
  clear h
  intro ⟨n27, out6, i7⟩ h
  replace h := iter_some h; obtain ⟨m10, rfl, h⟩ := h
  rw [F45_b2] at h
  try dsimp only at h
  show AW _ _ _ _ ⟨sl [(0, .pv (.slice (List.map GEnv.pv l1))), (1, .pv (.int .i64 group2)), (8, .pv (.slice (List.map GValue.pv out6))), (13, .pv (.slice (List.map Word.pv words3))), (14, .pv (.int .i64 (words3.length : Int))), (15, .pv (.int .i64 i7))], 45, []⟩
  refine AW.seq ?_
  refine AW.reg hS [(0, .pv (.slice (List.map GEnv.pv l1))), (1, .pv (.int .i64 group2)), (8, .pv (.slice (List.map GValue.pv out6))), (13, .pv (.slice (List.map Word.pv words3))), (14, .pv (.int .i64 (words3.length : Int))), (15, .pv (.int .i64 i7)), (16, .pv (.bool (decide (i7 < (words3.length : Int)))))] [] ?_ ?_
  · simp -implicitDefEqProofs only [RUNS, qindex, Nat.reduceAdd, Nat.reduceLeDiff, Nat.reduceSub, reduceIte, Nat.reduceEqDiff, Nat.reduceLT, reduceCtorEq, Nat.reduceMul, Nat.reduceBEq, Int.reduceEq, if_true, if_false, eq_self, ne_eq, env_bT, T_3, P31_eq, Redir.pv_eq, P154_eq, Cmd.pv_eq, P32_eq, Word.pv_eq, GValue.pv_eq, P22_eq, Var.pv_eq, P52_eq, GEnv.pv_eq, eqT_3]
  refine AW.seq ?_
  refine AW.cond (b := decide (i7 < (words3.length : Int))) rfl (fun hb11 => ?_) (fun hb11 => ?_)
  · replace h := bif_t hb11 h
    refine AW.skip ?_
    refine AW.seq ?_
    refine AW.block ?_
    refine AW.seq ?_
    replace h := Option.bind_eq_some_iff.1 h; obtain ⟨u12, q13, h⟩ := h
    have f14 := lidx_f q13
    refine AW.reg hS [(0, .pv (.slice (List.map GEnv.pv l1))), (1, .pv (.int .i64 group2)), (8, .pv (.slice (List.map GValue.pv out6))), (9, .pv (.int .i64 i7)), (10, .ref 0 0), (13, .pv (.slice (List.map Word.pv words3))), (14, .pv (.int .i64 (words3.length : Int))), (15, .pv (.int .i64 i7))] [.var [.pv (.int .i64 u12.kind_), .pv (.str u12.text_), .pv (.str u12.quoted_), .pv (.slice (List.map Word.pv u12.words_)), .pv (.slice (List.map Cmd.pv u12.cmd_))]] ?_ ?_
    · simp -implicitDefEqProofs only [RUNS, qindex, Nat.reduceAdd, Nat.reduceLeDiff, Nat.reduceSub, reduceIte, Nat.reduceEqDiff, Nat.reduceLT, reduceCtorEq, Nat.reduceMul, Nat.reduceBEq, Int.reduceEq, if_true, if_false, eq_self, ne_eq, env_bT, T_31, T_34, P31_eq, Redir.pv_eq, P154_eq, Cmd.pv_eq, P32_eq, Word.pv_eq, GValue.pv_eq, P22_eq, Var.pv_eq, P52_eq, GEnv.pv_eq, f14.1, f14.2.1]
    refine AW.seq ?_
    replace h := Option.bind_eq_some_iff.1 h; obtain ⟨⟨r15, r16⟩, q17, h⟩ := h
    dsimp only at h
    have f18 := c_w29 l1 group2 u12 r15 r16 q17
    try dsimp only at f18
    refine AW.reg hS [(0, .pv (.slice (List.map GEnv.pv l1))), (1, .pv (.int .i64 group2)), (8, .pv (.slice (List.map GValue.pv out6))), (9, .pv (.int .i64 i7)), (11, .pv (.slice (List.map GValue.pv r15))), (12, .pv (.int .i64 r16)), (13, .pv (.slice (List.map Word.pv words3))), (14, .pv (.int .i64 (words3.length : Int))), (15, .pv (.int .i64 i7))] [.var [.pv (.int .i64 u12.kind_), .pv (.str u12.text_), .pv (.str u12.quoted_), .pv (.slice (List.map Word.pv u12.words_)), .pv (.slice (List.map Cmd.pv u12.cmd_))]] ?_ ?_
    · simp -implicitDefEqProofs only [RUNS, qindex, Nat.reduceAdd, Nat.reduceLeDiff, Nat.reduceSub, reduceIte, Nat.reduceEqDiff, Nat.reduceLT, reduceCtorEq, Nat.reduceMul, Nat.reduceBEq, Int.reduceEq, if_true, if_false, eq_self, ne_eq, env_bT, T_3, T_30, T_34, T_54, P31_eq, Redir.pv_eq, P154_eq, Cmd.pv_eq, P32_eq, Word.pv_eq, GValue.pv_eq, P22_eq, Var.pv_eq, P52_eq, GEnv.pv_eq, pf_29, f18]
    refine AW.seqJ (α := (List GValue) × Int) (fun (v19, e20) => ⟨sl [(0, .pv (.slice (List.map GEnv.pv l1))), (1, .pv (.int .i64 group2)), (11, .pv (.slice (List.map GValue.pv v19))), (12, .pv (.int .i64 e20)), (13, .pv (.slice (List.map Word.pv words3))), (14, .pv (.int .i64 (words3.length : Int))), (15, .pv (.int .i64 i7))], 45, [.var [.pv (.int .i64 u12.kind_), .pv (.str u12.text_), .pv (.str u12.quoted_), .pv (.slice (List.map Word.pv u12.words_)), .pv (.slice (List.map Cmd.pv u12.cmd_))]]⟩) (fun x => F45_j3 (iter (F45_b2 words3 w29 l1 group2) m10) i7 x = some (r4, r5)) ?_ ?_
    · intro ⟨v19, e20⟩ h
      rw [F45_j3] at h
      try dsimp only at h
      show AW _ _ _ _ ⟨sl [(0, .pv (.slice (List.map GEnv.pv l1))), (1, .pv (.int .i64 group2)), (11, .pv (.slice (List.map GValue.pv v19))), (12, .pv (.int .i64 e20)), (13, .pv (.slice (List.map Word.pv words3))), (14, .pv (.int .i64 (words3.length : Int))), (15, .pv (.int .i64 i7))], 45, [.var [.pv (.int .i64 u12.kind_), .pv (.str u12.text_), .pv (.str u12.quoted_), .pv (.slice (List.map Word.pv u12.words_)), .pv (.slice (List.map Cmd.pv u12.cmd_))]]⟩
      refine AW.seq ?_
      refine AW.seq ?_
      refine AW.reg hS [(0, .pv (.slice (List.map GEnv.pv l1))), (1, .pv (.int .i64 group2)), (11, .pv (.slice (List.map GValue.pv v19))), (12, .pv (.int .i64 e20)), (13, .pv (.slice (List.map Word.pv words3))), (14, .pv (.int .i64 (words3.length : Int))), (15, .pv (.int .i64 i7)), (40, .pv (.bool (!decide (e20 = 0))))] [.var [.pv (.int .i64 u12.kind_), .pv (.str u12.text_), .pv (.str u12.quoted_), .pv (.slice (List.map Word.pv u12.words_)), .pv (.slice (List.map Cmd.pv u12.cmd_))]] ?_ ?_
      · simp -implicitDefEqProofs only [RUNS, qindex, Nat.reduceAdd, Nat.reduceLeDiff, Nat.reduceSub, reduceIte, Nat.reduceEqDiff, Nat.reduceLT, reduceCtorEq, Nat.reduceMul, Nat.reduceBEq, Int.reduceEq, if_true, if_false, eq_self, ne_eq, env_bT, T_25, P31_eq, Redir.pv_eq, P154_eq, Cmd.pv_eq, P32_eq, Word.pv_eq, GValue.pv_eq, P22_eq, Var.pv_eq, P52_eq, GEnv.pv_eq, eqT_25]
      refine AW.cond (b := !decide (e20 = 0)) rfl (fun hb21 => ?_) (fun hb21 => ?_)
      · replace h := bif_t hb21 h
        refine AW.seq ?_
        refine AW.reg hS [(6, .nils), (7, .pv (.int .i64 e20))] [.var [.pv (.int .i64 u12.kind_), .pv (.str u12.text_), .pv (.str u12.quoted_), .pv (.slice (List.map Word.pv u12.words_)), .pv (.slice (List.map Cmd.pv u12.cmd_))]] ?_ ?_
        · simp -implicitDefEqProofs only [RUNS, qindex, Nat.reduceAdd, Nat.reduceLeDiff, Nat.reduceSub, reduceIte, Nat.reduceEqDiff, Nat.reduceLT, reduceCtorEq, Nat.reduceMul, Nat.reduceBEq, Int.reduceEq, if_true, if_false, eq_self, ne_eq, env_bT, P31_eq, Redir.pv_eq, P154_eq, Cmd.pv_eq, P32_eq, Word.pv_eq, GValue.pv_eq, P22_eq, Var.pv_eq, P52_eq, GEnv.pv_eq]
        refine AW.ret ?_
        cases h
        show finish _ _ _ _ _ = _
        first | rfl | (simp [finish, resOf, renArgs, toPV, selObjs, sl])
      · replace h := bif_f hb21 h
        refine AW.skip ?_
        refine AW.reg hS [(0, .pv (.slice (List.map GEnv.pv l1))), (1, .pv (.int .i64 group2)), (8, .pv (.slice (List.map GValue.pv v19))), (13, .pv (.slice (List.map Word.pv words3))), (14, .pv (.int .i64 (words3.length : Int))), (15, .pv (.int .i64 i7))] [.var [.pv (.int .i64 u12.kind_), .pv (.str u12.text_), .pv (.str u12.quoted_), .pv (.slice (List.map Word.pv u12.words_)), .pv (.slice (List.map Cmd.pv u12.cmd_))]] ?_ ?_
        · simp -implicitDefEqProofs only [RUNS, qindex, Nat.reduceAdd, Nat.reduceLeDiff, Nat.reduceSub, reduceIte, Nat.reduceEqDiff, Nat.reduceLT, reduceCtorEq, Nat.reduceMul, Nat.reduceBEq, Int.reduceEq, if_true, if_false, eq_self, ne_eq, env_bT, P31_eq, Redir.pv_eq, P154_eq, Cmd.pv_eq, P32_eq, Word.pv_eq, GValue.pv_eq, P22_eq, Var.pv_eq, P52_eq, GEnv.pv_eq]
        refine AW.reg hS [(0, .pv (.slice (List.map GEnv.pv l1))), (1, .pv (.int .i64 group2)), (8, .pv (.slice (List.map GValue.pv v19))), (13, .pv (.slice (List.map Word.pv words3))), (14, .pv (.int .i64 (words3.length : Int))), (15, .pv (.int .i64 (IntKind.wrap .i64 (i7 + 1))))] [.var [.pv (.int .i64 u12.kind_), .pv (.str u12.text_), .pv (.str u12.quoted_), .pv (.slice (List.map Word.pv u12.words_)), .pv (.slice (List.map Cmd.pv u12.cmd_))]] ?_ ?_
        · simp -implicitDefEqProofs only [RUNS, qindex, Nat.reduceAdd, Nat.reduceLeDiff, Nat.reduceSub, reduceIte, Nat.reduceEqDiff, Nat.reduceLT, reduceCtorEq, Nat.reduceMul, Nat.reduceBEq, Int.reduceEq, if_true, if_false, eq_self, ne_eq, env_bT, T_3, P31_eq, Redir.pv_eq, P154_eq, Cmd.pv_eq, P32_eq, Word.pv_eq, GValue.pv_eq, P22_eq, Var.pv_eq, P52_eq, GEnv.pv_eq, eqT_3]
        exact ⟨(m10, (v19, IntKind.wrap .i64 (i7 + 1))), h, (Weak.norm (m := 0) (Nat.le_of_ble_eq_true rfl) ⟨rfl, rfl, rfl, rfl, rfl, rfl, trivial⟩ rfl rfl rfl), Nat.lt_succ_self _⟩
    refine AW.seq ?_
    refine AW.reg hS [(0, .pv (.slice (List.map GEnv.pv l1))), (1, .pv (.int .i64 group2)), (8, .pv (.slice (List.map GValue.pv out6))), (11, .pv (.slice (List.map GValue.pv r15))), (12, .pv (.int .i64 r16)), (13, .pv (.slice (List.map Word.pv words3))), (14, .pv (.int .i64 (words3.length : Int))), (15, .pv (.int .i64 i7)), (32, .pv (.bool (decide (r16 = 0) && decide (0 < i7))))] [.var [.pv (.int .i64 u12.kind_), .pv (.str u12.text_), .pv (.str u12.quoted_), .pv (.slice (List.map Word.pv u12.words_)), .pv (.slice (List.map Cmd.pv u12.cmd_))]] ?_ ?_
    · clear h
      (simp -implicitDefEqProofs only [RUNS, qindex, Nat.reduceAdd, Nat.reduceLeDiff, Nat.reduceSub, reduceIte, Nat.reduceEqDiff, Nat.reduceLT, reduceCtorEq, Nat.reduceMul, Nat.reduceBEq, Int.reduceEq, if_true, if_false, eq_self, ne_eq, env_bT, T_3, T_25, P31_eq, Redir.pv_eq, P154_eq, Cmd.pv_eq, P32_eq, Word.pv_eq, GValue.pv_eq, P22_eq, Var.pv_eq, P52_eq, GEnv.pv_eq, eqT_25, eqT_3]); repeat' (split <;> rename_i hb <;> (try simp only [HBS, ge_iff_le, gt_iff_lt] at hb) <;> simp -implicitDefEqProofs only [RUNS, qindex, Nat.reduceAdd, Nat.reduceLeDiff, Nat.reduceSub, reduceIte, Nat.reduceEqDiff, Nat.reduceLT, reduceCtorEq, Nat.reduceMul, Nat.reduceBEq, Int.reduceEq, if_true, if_false, eq_self, ne_eq, env_bT, T_3, T_25, P31_eq, Redir.pv_eq, P154_eq, Cmd.pv_eq, P32_eq, Word.pv_eq, GValue.pv_eq, P22_eq, Var.pv_eq, P52_eq, GEnv.pv_eq, eqT_25, eqT_3, *, decide_true, decide_false, Decidable.not_not, not_false_eq_true, not_true_eq_false])
      all_goals (first | (simp only [BOOLS]; done) | (simp [*]; done) | ((try simp only [CLOS, beq_iff_eq, bne_iff_ne, ne_eq] at *) <;> omega) | (simp_all; done) | (simp_all <;> omega))
    refine AW.cond (b := (decide (r16 = 0) && decide (0 < i7))) rfl (fun hb22 => ?_) (fun hb22 => ?_)
    · replace h := bif_t hb22 h
      replace h := Option.bind_eq_some_iff.1 h; obtain ⟨⟨r23, r24⟩, q25, h⟩ := h
      dsimp only at h
      have f26 := c_F21 out6 r15 r23 r24 q25
      try dsimp only at f26
      refine AW.reg hS [(0, .pv (.slice (List.map GEnv.pv l1))), (1, .pv (.int .i64 group2)), (11, .pv (.slice (List.map GValue.pv r23))), (12, .pv (.int .i64 r24)), (13, .pv (.slice (List.map Word.pv words3))), (14, .pv (.int .i64 (words3.length : Int))), (15, .pv (.int .i64 i7))] [.var [.pv (.int .i64 u12.kind_), .pv (.str u12.text_), .pv (.str u12.quoted_), .pv (.slice (List.map Word.pv u12.words_)), .pv (.slice (List.map Cmd.pv u12.cmd_))]] ?_ ?_
      · simp -implicitDefEqProofs only [RUNS, qindex, Nat.reduceAdd, Nat.reduceLeDiff, Nat.reduceSub, reduceIte, Nat.reduceEqDiff, Nat.reduceLT, reduceCtorEq, Nat.reduceMul, Nat.reduceBEq, Int.reduceEq, if_true, if_false, eq_self, ne_eq, env_bT, T_45, T_62, P31_eq, Redir.pv_eq, P154_eq, Cmd.pv_eq, P32_eq, Word.pv_eq, GValue.pv_eq, P22_eq, Var.pv_eq, P52_eq, GEnv.pv_eq, pf_21, f26]
      exact ⟨(r23, r24), h, (Weak.norm (m := 1) (Nat.le_of_ble_eq_true rfl) ⟨rfl, rfl, rfl, rfl, rfl, rfl, rfl, trivial⟩ rfl rfl rfl)⟩
    · replace h := bif_f hb22 h
      refine AW.skip ?_
      exact ⟨(r15, r16), h, (Weak.norm (m := 1) (Nat.le_of_ble_eq_true rfl) ⟨rfl, rfl, rfl, rfl, rfl, rfl, rfl, trivial⟩ rfl rfl rfl)⟩
  · replace h := bif_f hb11 h
    refine AW.exit ?_
    refine AW.seq ?_
    refine AW.reg hS [(6, .pv (.slice (List.map GValue.pv out6))), (7, .pv (.int .i64 0))] [] ?_ ?_
    · simp -implicitDefEqProofs only [RUNS, qindex, Nat.reduceAdd, Nat.reduceLeDiff, Nat.reduceSub, reduceIte, Nat.reduceEqDiff, Nat.reduceLT, reduceCtorEq, Nat.reduceMul, Nat.reduceBEq, Int.reduceEq, if_true, if_false, eq_self, ne_eq, env_bT, P31_eq, Redir.pv_eq, P154_eq, Cmd.pv_eq, P32_eq, Word.pv_eq, GValue.pv_eq, P22_eq, Var.pv_eq, P52_eq, GEnv.pv_eq]
    refine AW.ret ?_
    cases h
    show finish _ _ _ _ _ = _
    first | rfl | (simp [finish, resOf, renArgs, toPV, selObjs, sl])

set_option maxHeartbeats 4000000 in
theorem g_F29 {O : Orc} (hS : Sound env O) (hpf : O.pf = pfn) (w29 : (List GEnv) → Int → Word → Option ((List GValue) × Int)) (c_F36 : C_F36 O) (c_F43 : C_F43 O) (c_L_Itoa : C_L_Itoa O) (c_F44 : C_F44 w29 O) (c_F23 : C_F23 O) (c_F11 : C_F11 O) (c_F45 : C_F45 w29 O) (l1 : List GEnv) (group2 : Int) (w3 : Word) (r4 : List GValue) (r5 : Int) (h : F29 w29 l1 group2 w3 = some (r4, r5)) : Good env 29 [.pv (.slice (List.map GEnv.pv l1)), .pv (.int .i64 group2), .pv (.agg [.int .i64 w3.kind_, .str w3.text_, .str w3.quoted_, .slice (List.map Word.pv w3.words_), .slice (List.map Cmd.pv w3.cmd_)])] [] [.pv (.slice (List.map GValue.pv r4)), .pv (.int .i64 r5)] [] := by
  have pf_11 : O.pf 11 = true := by rw [hpf]; rfl
  have pf_23 : O.pf 23 = true := by rw [hpf]; rfl
  have pf_36 : O.pf 36 = true := by rw [hpf]; rfl
  have pf_42 : O.pf 42 = true := by rw [hpf]; rfl
  have pf_43 : O.pf 43 = true := by rw [hpf]; rfl
  have pf_44 : O.pf 44 = true := by rw [hpf]; rfl
  have pf_45 : O.pf 45 = true := by rw [hpf]; rfl
  refine Good.start (fn := Tryd.f29) (N := 92) fn_29 rfl rfl (by simp) [] _ rfl rfl ?_
  rw [F29] at h
  refine AW.seq ?_
  refine AW.reg hS [(0, .pv (.slice (List.map GEnv.pv l1))), (1, .pv (.int .i64 group2)), (5, .ref 0 0)] [.var [.pv (.int .i64 w3.kind_), .pv (.str w3.text_), .pv (.str w3.quoted_), .pv (.slice (List.map Word.pv w3.words_)), .pv (.slice (List.map Cmd.pv w3.cmd_))]] ?_ ?_
  · simp -implicitDefEqProofs only [RUNS, qindex, Nat.reduceAdd, Nat.reduceLeDiff, Nat.reduceSub, reduceIte, Nat.reduceEqDiff, Nat.reduceLT, reduceCtorEq, Nat.reduceMul, Nat.reduceBEq, Int.reduceEq, if_true, if_false, eq_self, ne_eq, env_bT, T_34, P31_eq, Redir.pv_eq, P154_eq, Cmd.pv_eq, P32_eq, Word.pv_eq, GValue.pv_eq, P22_eq, Var.pv_eq, P52_eq, GEnv.pv_eq]
  refine AW.seq ?_
  refine AW.seq ?_
  refine AW.reg hS [(0, .pv (.slice (List.map GEnv.pv l1))), (1, .pv (.int .i64 group2)), (5, .ref 0 0), (12, .pv (.int .i64 w3.kind_))] [.var [.pv (.int .i64 w3.kind_), .pv (.str w3.text_), .pv (.str w3.quoted_), .pv (.slice (List.map Word.pv w3.words_)), .pv (.slice (List.map Cmd.pv w3.cmd_))]] ?_ ?_
  · simp -implicitDefEqProofs only [RUNS, qindex, Nat.reduceAdd, Nat.reduceLeDiff, Nat.reduceSub, reduceIte, Nat.reduceEqDiff, Nat.reduceLT, reduceCtorEq, Nat.reduceMul, Nat.reduceBEq, Int.reduceEq, if_true, if_false, eq_self, ne_eq, env_bT, T_3, T_34, P31_eq, Redir.pv_eq, P154_eq, Cmd.pv_eq, P32_eq, Word.pv_eq, GValue.pv_eq, P22_eq, Var.pv_eq, P52_eq, GEnv.pv_eq]
  refine AW.block ?_
  refine AW.seq ?_
  refine AW.reg hS [(0, .pv (.slice (List.map GEnv.pv l1))), (1, .pv (.int .i64 group2)), (5, .ref 0 0), (12, .pv (.int .i64 w3.kind_)), (13, .pv (.bool (decide (w3.kind_ = 1))))] [.var [.pv (.int .i64 w3.kind_), .pv (.str w3.text_), .pv (.str w3.quoted_), .pv (.slice (List.map Word.pv w3.words_)), .pv (.slice (List.map Cmd.pv w3.cmd_))]] ?_ ?_
  · simp -implicitDefEqProofs only [RUNS, qindex, Nat.reduceAdd, Nat.reduceLeDiff, Nat.reduceSub, reduceIte, Nat.reduceEqDiff, Nat.reduceLT, reduceCtorEq, Nat.reduceMul, Nat.reduceBEq, Int.reduceEq, if_true, if_false, eq_self, ne_eq, env_bT, T_3, P31_eq, Redir.pv_eq, P154_eq, Cmd.pv_eq, P32_eq, Word.pv_eq, GValue.pv_eq, P22_eq, Var.pv_eq, P52_eq, GEnv.pv_eq, eqT_3]
  refine AW.cond (b := decide (w3.kind_ = 1)) rfl (fun hb6 => ?_) (fun hb6 => ?_)
  · replace h := bif_t hb6 h
    refine AW.seq ?_
    refine AW.seq ?_
    refine AW.reg hS [(5, .ref 0 0), (21, .pv (.bool (!decide ((w3.text_.length : Int) = (w3.quoted_.length : Int)))))] [.var [.pv (.int .i64 w3.kind_), .pv (.str w3.text_), .pv (.str w3.quoted_), .pv (.slice (List.map Word.pv w3.words_)), .pv (.slice (List.map Cmd.pv w3.cmd_))]] ?_ ?_
    · simp -implicitDefEqProofs only [RUNS, qindex, Nat.reduceAdd, Nat.reduceLeDiff, Nat.reduceSub, reduceIte, Nat.reduceEqDiff, Nat.reduceLT, reduceCtorEq, Nat.reduceMul, Nat.reduceBEq, Int.reduceEq, if_true, if_false, eq_self, ne_eq, env_bT, T_3, T_9, T_34, P31_eq, Redir.pv_eq, P154_eq, Cmd.pv_eq, P32_eq, Word.pv_eq, GValue.pv_eq, P22_eq, Var.pv_eq, P52_eq, GEnv.pv_eq, eqT_3]
    refine AW.cond (b := !decide ((w3.text_.length : Int) = (w3.quoted_.length : Int))) rfl (fun hb7 => ?_) (fun hb7 => ?_)
    · replace h := bif_t hb7 h
      refine AW.seq ?_
      refine AW.reg hS [(6, .nils), (7, .pv (.int .i64 1))] [.var [.pv (.int .i64 w3.kind_), .pv (.str w3.text_), .pv (.str w3.quoted_), .pv (.slice (List.map Word.pv w3.words_)), .pv (.slice (List.map Cmd.pv w3.cmd_))]] ?_ ?_
      · simp -implicitDefEqProofs only [RUNS, qindex, Nat.reduceAdd, Nat.reduceLeDiff, Nat.reduceSub, reduceIte, Nat.reduceEqDiff, Nat.reduceLT, reduceCtorEq, Nat.reduceMul, Nat.reduceBEq, Int.reduceEq, if_true, if_false, eq_self, ne_eq, env_bT, P31_eq, Redir.pv_eq, P154_eq, Cmd.pv_eq, P32_eq, Word.pv_eq, GValue.pv_eq, P22_eq, Var.pv_eq, P52_eq, GEnv.pv_eq]
      refine AW.ret ?_
      cases h
      show finish _ _ _ _ _ = _
      first | rfl | (simp [finish, resOf, renArgs, toPV, selObjs, sl])
    · replace h := bif_f hb7 h
      refine AW.skip ?_
      refine AW.seq ?_
      refine AW.reg hS [(6, .full (List.map GValue.pv [GValue.mk w3.text_ w3.quoted_])), (7, .pv (.int .i64 0))] [.var [.pv (.int .i64 w3.kind_), .pv (.str w3.text_), .pv (.str w3.quoted_), .pv (.slice (List.map Word.pv w3.words_)), .pv (.slice (List.map Cmd.pv w3.cmd_))]] ?_ ?_
      · simp -implicitDefEqProofs only [RUNS, qindex, Nat.reduceAdd, Nat.reduceLeDiff, Nat.reduceSub, reduceIte, Nat.reduceEqDiff, Nat.reduceLT, reduceCtorEq, Nat.reduceMul, Nat.reduceBEq, Int.reduceEq, if_true, if_false, eq_self, ne_eq, env_bT, T_9, T_34, T_45, T_62, P31_eq, Redir.pv_eq, P154_eq, Cmd.pv_eq, P32_eq, Word.pv_eq, GValue.pv_eq, P22_eq, Var.pv_eq, P52_eq, GEnv.pv_eq, ownT_62, ownT_45]
      refine AW.ret ?_
      cases h
      show finish _ _ _ _ _ = _
      first | rfl | (simp [finish, resOf, renArgs, toPV, selObjs, sl])
  · replace h := bif_f hb6 h
    refine AW.seq ?_
    refine AW.reg hS [(0, .pv (.slice (List.map GEnv.pv l1))), (1, .pv (.int .i64 group2)), (5, .ref 0 0), (12, .pv (.int .i64 w3.kind_)), (28, .pv (.bool (decide (w3.kind_ = 2))))] [.var [.pv (.int .i64 w3.kind_), .pv (.str w3.text_), .pv (.str w3.quoted_), .pv (.slice (List.map Word.pv w3.words_)), .pv (.slice (List.map Cmd.pv w3.cmd_))]] ?_ ?_
    · simp -implicitDefEqProofs only [RUNS, qindex, Nat.reduceAdd, Nat.reduceLeDiff, Nat.reduceSub, reduceIte, Nat.reduceEqDiff, Nat.reduceLT, reduceCtorEq, Nat.reduceMul, Nat.reduceBEq, Int.reduceEq, if_true, if_false, eq_self, ne_eq, env_bT, T_3, P31_eq, Redir.pv_eq, P154_eq, Cmd.pv_eq, P32_eq, Word.pv_eq, GValue.pv_eq, P22_eq, Var.pv_eq, P52_eq, GEnv.pv_eq, eqT_3]
    refine AW.cond (b := decide (w3.kind_ = 2)) rfl (fun hb8 => ?_) (fun hb8 => ?_)
    · replace h := bif_t hb8 h
      refine AW.seq ?_
      replace h := Option.bind_eq_some_iff.1 h; obtain ⟨r9, q10, h⟩ := h
      have f11 := c_F36 l1 group2 w3.text_ r9 q10
      try dsimp only at f11
      replace h := Option.bind_eq_some_iff.1 h; obtain ⟨r12, q13, h⟩ := h
      have f14 := c_F43 r9 r12 q13
      try dsimp only at f14
      refine AW.reg hS [(6, .pv (.slice (List.map GValue.pv r12))), (7, .pv (.int .i64 0))] [.var [.pv (.int .i64 w3.kind_), .pv (.str w3.text_), .pv (.str w3.quoted_), .pv (.slice (List.map Word.pv w3.words_)), .pv (.slice (List.map Cmd.pv w3.cmd_))]] ?_ ?_
      · simp -implicitDefEqProofs only [RUNS, qindex, Nat.reduceAdd, Nat.reduceLeDiff, Nat.reduceSub, reduceIte, Nat.reduceEqDiff, Nat.reduceLT, reduceCtorEq, Nat.reduceMul, Nat.reduceBEq, Int.reduceEq, if_true, if_false, eq_self, ne_eq, env_bT, T_3, T_9, T_22, T_30, T_34, T_54, P31_eq, Redir.pv_eq, P154_eq, Cmd.pv_eq, P32_eq, Word.pv_eq, GValue.pv_eq, P22_eq, Var.pv_eq, P52_eq, GEnv.pv_eq, pf_36, f11, pf_43, f14]
      refine AW.ret ?_
      cases h
      show finish _ _ _ _ _ = _
      first | rfl | (simp [finish, resOf, renArgs, toPV, selObjs, sl])
    · replace h := bif_f hb8 h
      refine AW.seq ?_
      refine AW.reg hS [(0, .pv (.slice (List.map GEnv.pv l1))), (1, .pv (.int .i64 group2)), (5, .ref 0 0), (12, .pv (.int .i64 w3.kind_)), (36, .pv (.bool (decide (w3.kind_ = 3))))] [.var [.pv (.int .i64 w3.kind_), .pv (.str w3.text_), .pv (.str w3.quoted_), .pv (.slice (List.map Word.pv w3.words_)), .pv (.slice (List.map Cmd.pv w3.cmd_))]] ?_ ?_
      · simp -implicitDefEqProofs only [RUNS, qindex, Nat.reduceAdd, Nat.reduceLeDiff, Nat.reduceSub, reduceIte, Nat.reduceEqDiff, Nat.reduceLT, reduceCtorEq, Nat.reduceMul, Nat.reduceBEq, Int.reduceEq, if_true, if_false, eq_self, ne_eq, env_bT, T_3, P31_eq, Redir.pv_eq, P154_eq, Cmd.pv_eq, P32_eq, Word.pv_eq, GValue.pv_eq, P22_eq, Var.pv_eq, P52_eq, GEnv.pv_eq, eqT_3]
      refine AW.cond (b := decide (w3.kind_ = 3)) rfl (fun hb15 => ?_) (fun hb15 => ?_)
      · replace h := bif_t hb15 h
        refine AW.seq ?_
        replace h := Option.bind_eq_some_iff.1 h; obtain ⟨r16, q17, h⟩ := h
        have f18 := c_F36 l1 group2 w3.text_ r16 q17
        try dsimp only at f18
        replace h := Option.bind_eq_some_iff.1 h; obtain ⟨s19, q20, h⟩ := h
        have f21 := c_L_Itoa (r16.length : Int) s19 q20
        try dsimp only at f21
        replace h := Option.bind_eq_some_iff.1 h; obtain ⟨r22, q23, h⟩ := h
        have f24 := c_F43 [s19] r22 q23
        try dsimp only at f24
        try simp only [List.map_cons, List.map_nil, P31_eq, Redir.pv_eq, P154_eq, Cmd.pv_eq, P32_eq, Word.pv_eq, GValue.pv_eq, P22_eq, Var.pv_eq, P52_eq, GEnv.pv_eq] at f24
        refine AW.reg hS [(6, .pv (.slice (List.map GValue.pv r22))), (7, .pv (.int .i64 0))] [.var [.pv (.int .i64 w3.kind_), .pv (.str w3.text_), .pv (.str w3.quoted_), .pv (.slice (List.map Word.pv w3.words_)), .pv (.slice (List.map Cmd.pv w3.cmd_))]] ?_ ?_
        · simp -implicitDefEqProofs only [RUNS, qindex, Nat.reduceAdd, Nat.reduceLeDiff, Nat.reduceSub, reduceIte, Nat.reduceEqDiff, Nat.reduceLT, reduceCtorEq, Nat.reduceMul, Nat.reduceBEq, Int.reduceEq, if_true, if_false, eq_self, ne_eq, env_bT, T_3, T_9, T_22, T_30, T_34, T_54, P31_eq, Redir.pv_eq, P154_eq, Cmd.pv_eq, P32_eq, Word.pv_eq, GValue.pv_eq, P22_eq, Var.pv_eq, P52_eq, GEnv.pv_eq, pf_36, f18, pf_42, f21, ownT_22, pf_43, f24]
        refine AW.ret ?_
        cases h
        show finish _ _ _ _ _ = _
        first | rfl | (simp [finish, resOf, renArgs, toPV, selObjs, sl])
      · replace h := bif_f hb15 h
        refine AW.seq ?_
        refine AW.reg hS [(0, .pv (.slice (List.map GEnv.pv l1))), (1, .pv (.int .i64 group2)), (5, .ref 0 0), (12, .pv (.int .i64 w3.kind_)), (47, .pv (.bool (decide (w3.kind_ = 7))))] [.var [.pv (.int .i64 w3.kind_), .pv (.str w3.text_), .pv (.str w3.quoted_), .pv (.slice (List.map Word.pv w3.words_)), .pv (.slice (List.map Cmd.pv w3.cmd_))]] ?_ ?_
        · simp -implicitDefEqProofs only [RUNS, qindex, Nat.reduceAdd, Nat.reduceLeDiff, Nat.reduceSub, reduceIte, Nat.reduceEqDiff, Nat.reduceLT, reduceCtorEq, Nat.reduceMul, Nat.reduceBEq, Int.reduceEq, if_true, if_false, eq_self, ne_eq, env_bT, T_3, P31_eq, Redir.pv_eq, P154_eq, Cmd.pv_eq, P32_eq, Word.pv_eq, GValue.pv_eq, P22_eq, Var.pv_eq, P52_eq, GEnv.pv_eq, eqT_3]
        refine AW.cond (b := decide (w3.kind_ = 7)) rfl (fun hb25 => ?_) (fun hb25 => ?_)
        · replace h := bif_t hb25 h
          refine AW.seq ?_
          replace h := Option.bind_eq_some_iff.1 h; obtain ⟨⟨r26, r27⟩, q28, h⟩ := h
          dsimp only at h
          have f29 := c_F44 l1 group2 w3.words_ r26 r27 q28
          try dsimp only at f29
          refine AW.reg hS [(0, .pv (.slice (List.map GEnv.pv l1))), (1, .pv (.int .i64 group2)), (5, .ref 0 0), (8, .pv (.slice (List.map GValue.pv r26))), (9, .pv (.int .i64 r27))] [.var [.pv (.int .i64 w3.kind_), .pv (.str w3.text_), .pv (.str w3.quoted_), .pv (.slice (List.map Word.pv w3.words_)), .pv (.slice (List.map Cmd.pv w3.cmd_))]] ?_ ?_
          · simp -implicitDefEqProofs only [RUNS, qindex, Nat.reduceAdd, Nat.reduceLeDiff, Nat.reduceSub, reduceIte, Nat.reduceEqDiff, Nat.reduceLT, reduceCtorEq, Nat.reduceMul, Nat.reduceBEq, Int.reduceEq, if_true, if_false, eq_self, ne_eq, env_bT, T_3, T_30, T_31, T_34, T_54, P31_eq, Redir.pv_eq, P154_eq, Cmd.pv_eq, P32_eq, Word.pv_eq, GValue.pv_eq, P22_eq, Var.pv_eq, P52_eq, GEnv.pv_eq, pf_44, f29]
          refine AW.seq ?_
          refine AW.seq ?_
          refine AW.reg hS [(0, .pv (.slice (List.map GEnv.pv l1))), (1, .pv (.int .i64 group2)), (5, .ref 0 0), (8, .pv (.slice (List.map GValue.pv r26))), (9, .pv (.int .i64 r27)), (58, .pv (.bool (!decide (r27 = 0))))] [.var [.pv (.int .i64 w3.kind_), .pv (.str w3.text_), .pv (.str w3.quoted_), .pv (.slice (List.map Word.pv w3.words_)), .pv (.slice (List.map Cmd.pv w3.cmd_))]] ?_ ?_
          · simp -implicitDefEqProofs only [RUNS, qindex, Nat.reduceAdd, Nat.reduceLeDiff, Nat.reduceSub, reduceIte, Nat.reduceEqDiff, Nat.reduceLT, reduceCtorEq, Nat.reduceMul, Nat.reduceBEq, Int.reduceEq, if_true, if_false, eq_self, ne_eq, env_bT, T_25, P31_eq, Redir.pv_eq, P154_eq, Cmd.pv_eq, P32_eq, Word.pv_eq, GValue.pv_eq, P22_eq, Var.pv_eq, P52_eq, GEnv.pv_eq, eqT_25]
          refine AW.cond (b := !decide (r27 = 0)) rfl (fun hb30 => ?_) (fun hb30 => ?_)
          · replace h := bif_t hb30 h
            refine AW.seq ?_
            refine AW.reg hS [(6, .nils), (7, .pv (.int .i64 r27))] [.var [.pv (.int .i64 w3.kind_), .pv (.str w3.text_), .pv (.str w3.quoted_), .pv (.slice (List.map Word.pv w3.words_)), .pv (.slice (List.map Cmd.pv w3.cmd_))]] ?_ ?_
            · simp -implicitDefEqProofs only [RUNS, qindex, Nat.reduceAdd, Nat.reduceLeDiff, Nat.reduceSub, reduceIte, Nat.reduceEqDiff, Nat.reduceLT, reduceCtorEq, Nat.reduceMul, Nat.reduceBEq, Int.reduceEq, if_true, if_false, eq_self, ne_eq, env_bT, P31_eq, Redir.pv_eq, P154_eq, Cmd.pv_eq, P32_eq, Word.pv_eq, GValue.pv_eq, P22_eq, Var.pv_eq, P52_eq, GEnv.pv_eq]
            refine AW.ret ?_
            cases h
            show finish _ _ _ _ _ = _
            first | rfl | (simp [finish, resOf, renArgs, toPV, selObjs, sl])
          · replace h := bif_f hb30 h
            refine AW.skip ?_
            refine AW.seq ?_
            replace h := Option.bind_eq_some_iff.1 h; obtain ⟨r31, q32, h⟩ := h
            have f33 := c_F36 l1 group2 w3.text_ r31 q32
            try dsimp only at f33
            replace h := Option.bind_eq_some_iff.1 h; obtain ⟨r34, q35, h⟩ := h
            have f36 := c_F23 r26 r34 q35
            try dsimp only at f36
            replace h := Option.bind_eq_some_iff.1 h; obtain ⟨⟨r37, r38⟩, q39, h⟩ := h
            dsimp only at h
            have f40 := c_F11 r31 r34 r37 r38 q39
            try dsimp only at f40
            refine AW.reg hS [(9, .pv (.int .i64 r38)), (10, .pv (.slice (List.map PV.str r37)))] [.var [.pv (.int .i64 w3.kind_), .pv (.str w3.text_), .pv (.str w3.quoted_), .pv (.slice (List.map Word.pv w3.words_)), .pv (.slice (List.map Cmd.pv w3.cmd_))]] ?_ ?_
            · simp -implicitDefEqProofs only [RUNS, qindex, Nat.reduceAdd, Nat.reduceLeDiff, Nat.reduceSub, reduceIte, Nat.reduceEqDiff, Nat.reduceLT, reduceCtorEq, Nat.reduceMul, Nat.reduceBEq, Int.reduceEq, if_true, if_false, eq_self, ne_eq, env_bT, T_3, T_9, T_22, T_30, T_34, T_45, T_54, T_62, P31_eq, Redir.pv_eq, P154_eq, Cmd.pv_eq, P32_eq, Word.pv_eq, GValue.pv_eq, P22_eq, Var.pv_eq, P52_eq, GEnv.pv_eq, pf_36, f33, pf_23, f36, pf_11, f40]
            refine AW.seq ?_
            replace h := Option.bind_eq_some_iff.1 h; obtain ⟨r41, q42, h⟩ := h
            have f43 := c_F43 r37 r41 q42
            try dsimp only at f43
            refine AW.reg hS [(6, .pv (.slice (List.map GValue.pv r41))), (7, .pv (.int .i64 r38))] [.var [.pv (.int .i64 w3.kind_), .pv (.str w3.text_), .pv (.str w3.quoted_), .pv (.slice (List.map Word.pv w3.words_)), .pv (.slice (List.map Cmd.pv w3.cmd_))]] ?_ ?_
            · simp -implicitDefEqProofs only [RUNS, qindex, Nat.reduceAdd, Nat.reduceLeDiff, Nat.reduceSub, reduceIte, Nat.reduceEqDiff, Nat.reduceLT, reduceCtorEq, Nat.reduceMul, Nat.reduceBEq, Int.reduceEq, if_true, if_false, eq_self, ne_eq, env_bT, T_9, T_22, P31_eq, Redir.pv_eq, P154_eq, Cmd.pv_eq, P32_eq, Word.pv_eq, GValue.pv_eq, P22_eq, Var.pv_eq, P52_eq, GEnv.pv_eq, pf_43, f43]
            refine AW.ret ?_
            cases h
            show finish _ _ _ _ _ = _
            first | rfl | (simp [finish, resOf, renArgs, toPV, selObjs, sl])
        · replace h := bif_f hb25 h
          refine AW.seq ?_
          refine AW.reg hS [(0, .pv (.slice (List.map GEnv.pv l1))), (1, .pv (.int .i64 group2)), (5, .ref 0 0), (12, .pv (.int .i64 w3.kind_)), (74, .pv (.bool (decide (w3.kind_ = 4))))] [.var [.pv (.int .i64 w3.kind_), .pv (.str w3.text_), .pv (.str w3.quoted_), .pv (.slice (List.map Word.pv w3.words_)), .pv (.slice (List.map Cmd.pv w3.cmd_))]] ?_ ?_
          · simp -implicitDefEqProofs only [RUNS, qindex, Nat.reduceAdd, Nat.reduceLeDiff, Nat.reduceSub, reduceIte, Nat.reduceEqDiff, Nat.reduceLT, reduceCtorEq, Nat.reduceMul, Nat.reduceBEq, Int.reduceEq, if_true, if_false, eq_self, ne_eq, env_bT, T_3, P31_eq, Redir.pv_eq, P154_eq, Cmd.pv_eq, P32_eq, Word.pv_eq, GValue.pv_eq, P22_eq, Var.pv_eq, P52_eq, GEnv.pv_eq, eqT_3]
          refine AW.cond (b := decide (w3.kind_ = 4)) rfl (fun hb44 => ?_) (fun hb44 => ?_)
          · replace h := bif_t hb44 h
            refine AW.seq ?_
            replace h := Option.bind_eq_some_iff.1 h; obtain ⟨⟨r45, r46⟩, q47, h⟩ := h
            dsimp only at h
            have f48 := c_F45 l1 group2 w3.words_ r45 r46 q47
            try dsimp only at f48
            refine AW.reg hS [(6, .pv (.slice (List.map GValue.pv r45))), (7, .pv (.int .i64 r46))] [.var [.pv (.int .i64 w3.kind_), .pv (.str w3.text_), .pv (.str w3.quoted_), .pv (.slice (List.map Word.pv w3.words_)), .pv (.slice (List.map Cmd.pv w3.cmd_))]] ?_ ?_
            · simp -implicitDefEqProofs only [RUNS, qindex, Nat.reduceAdd, Nat.reduceLeDiff, Nat.reduceSub, reduceIte, Nat.reduceEqDiff, Nat.reduceLT, reduceCtorEq, Nat.reduceMul, Nat.reduceBEq, Int.reduceEq, if_true, if_false, eq_self, ne_eq, env_bT, T_3, T_30, T_31, T_34, T_54, P31_eq, Redir.pv_eq, P154_eq, Cmd.pv_eq, P32_eq, Word.pv_eq, GValue.pv_eq, P22_eq, Var.pv_eq, P52_eq, GEnv.pv_eq, pf_45, f48]
            refine AW.ret ?_
            cases h
            show finish _ _ _ _ _ = _
            first | rfl | (simp [finish, resOf, renArgs, toPV, selObjs, sl])
          · replace h := bif_f hb44 h
            refine AW.seq ?_
            refine AW.reg hS [(0, .pv (.slice (List.map GEnv.pv l1))), (1, .pv (.int .i64 group2)), (5, .ref 0 0), (83, .pv (.bool (decide (w3.kind_ = 5))))] [.var [.pv (.int .i64 w3.kind_), .pv (.str w3.text_), .pv (.str w3.quoted_), .pv (.slice (List.map Word.pv w3.words_)), .pv (.slice (List.map Cmd.pv w3.cmd_))]] ?_ ?_
            · simp -implicitDefEqProofs only [RUNS, qindex, Nat.reduceAdd, Nat.reduceLeDiff, Nat.reduceSub, reduceIte, Nat.reduceEqDiff, Nat.reduceLT, reduceCtorEq, Nat.reduceMul, Nat.reduceBEq, Int.reduceEq, if_true, if_false, eq_self, ne_eq, env_bT, T_3, P31_eq, Redir.pv_eq, P154_eq, Cmd.pv_eq, P32_eq, Word.pv_eq, GValue.pv_eq, P22_eq, Var.pv_eq, P52_eq, GEnv.pv_eq, eqT_3]
            refine AW.cond (b := decide (w3.kind_ = 5)) rfl (fun hb49 => ?_) (fun hb49 => ?_)
            · replace h := bif_t hb49 h
              refine AW.seq ?_
              replace h := Option.bind_eq_some_iff.1 h; obtain ⟨⟨r50, r51⟩, q52, h⟩ := h
              dsimp only at h
              have f53 := c_F44 l1 group2 w3.words_ r50 r51 q52
              try dsimp only at f53
              refine AW.reg hS [(6, .pv (.slice (List.map GValue.pv r50))), (7, .pv (.int .i64 r51))] [.var [.pv (.int .i64 w3.kind_), .pv (.str w3.text_), .pv (.str w3.quoted_), .pv (.slice (List.map Word.pv w3.words_)), .pv (.slice (List.map Cmd.pv w3.cmd_))]] ?_ ?_
              · simp -implicitDefEqProofs only [RUNS, qindex, Nat.reduceAdd, Nat.reduceLeDiff, Nat.reduceSub, reduceIte, Nat.reduceEqDiff, Nat.reduceLT, reduceCtorEq, Nat.reduceMul, Nat.reduceBEq, Int.reduceEq, if_true, if_false, eq_self, ne_eq, env_bT, T_3, T_30, T_31, T_34, T_54, P31_eq, Redir.pv_eq, P154_eq, Cmd.pv_eq, P32_eq, Word.pv_eq, GValue.pv_eq, P22_eq, Var.pv_eq, P52_eq, GEnv.pv_eq, pf_44, f53]
              refine AW.ret ?_
              cases h
              show finish _ _ _ _ _ = _
              first | rfl | (simp [finish, resOf, renArgs, toPV, selObjs, sl])
            · replace h := bif_f hb49 h
              refine AW.skip ?_
              refine AW.seq ?_
              refine AW.reg hS [(6, .nils), (7, .pv (.int .i64 1))] [.var [.pv (.int .i64 w3.kind_), .pv (.str w3.text_), .pv (.str w3.quoted_), .pv (.slice (List.map Word.pv w3.words_)), .pv (.slice (List.map Cmd.pv w3.cmd_))]] ?_ ?_
              · simp -implicitDefEqProofs only [RUNS, qindex, Nat.reduceAdd, Nat.reduceLeDiff, Nat.reduceSub, reduceIte, Nat.reduceEqDiff, Nat.reduceLT, reduceCtorEq, Nat.reduceMul, Nat.reduceBEq, Int.reduceEq, if_true, if_false, eq_self, ne_eq, env_bT, P31_eq, Redir.pv_eq, P154_eq, Cmd.pv_eq, P32_eq, Word.pv_eq, GValue.pv_eq, P22_eq, Var.pv_eq, P52_eq, GEnv.pv_eq]
              refine AW.ret ?_
              cases h
              show finish _ _ _ _ _ = _
              first | rfl | (simp [finish, resOf, renArgs, toPV, selObjs, sl])

set_option maxHeartbeats 4000000 in
theorem g_F17 {O : Orc} (hS : Sound env O) (hpf : O.pf = pfn) (c_K29 : C_K29 O) (c_F23 : C_F23 O) (l1 : List GEnv) (group2 : Int) (w3 : Word) (r4 : List Str) (r5 : List Str) (r6 : Int) (h : F17 l1 group2 w3 = some (r4, r5, r6)) : Good env 17 [.pv (.slice (List.map GEnv.pv l1)), .pv (.int .i64 group2), .pv (.agg [.int .i64 w3.kind_, .str w3.text_, .str w3.quoted_, .slice (List.map Word.pv w3.words_), .slice (List.map Cmd.pv w3.cmd_)])] [] [.pv (.slice (List.map PV.str r4)), .pv (.slice (List.map PV.str r5)), .pv (.int .i64 r6)] [] := by
  have pf_23 : O.pf 23 = true := by rw [hpf]; rfl
  have pf_29 : O.pf 29 = true := by rw [hpf]; rfl
  refine Good.start (fn := Tryd.f17) (N := 39) fn_17 rfl rfl (by simp) [] _ rfl rfl ?_
  rw [F17] at h
  refine AW.seq ?_
  refine AW.reg hS [(0, .pv (.slice (List.map GEnv.pv l1))), (1, .pv (.int .i64 group2)), (5, .ref 0 0)] [.var [.pv (.int .i64 w3.kind_), .pv (.str w3.text_), .pv (.str w3.quoted_), .pv (.slice (List.map Word.pv w3.words_)), .pv (.slice (List.map Cmd.pv w3.cmd_))]] ?_ ?_
  · simp -implicitDefEqProofs only [RUNS, qindex, Nat.reduceAdd, Nat.reduceLeDiff, Nat.reduceSub, reduceIte, Nat.reduceEqDiff, Nat.reduceLT, reduceCtorEq, Nat.reduceMul, Nat.reduceBEq, Int.reduceEq, if_true, if_false, eq_self, ne_eq, env_bT, T_34, P31_eq, Redir.pv_eq, P154_eq, Cmd.pv_eq, P32_eq, Word.pv_eq, GValue.pv_eq, P22_eq, Var.pv_eq, P52_eq, GEnv.pv_eq]
  refine AW.seq ?_
  replace h := Option.bind_eq_some_iff.1 h; obtain ⟨⟨r7, r8⟩, q9, h⟩ := h
  dsimp only at h
  have f10 := c_K29 l1 group2 w3 r7 r8 q9
  try dsimp only at f10
  refine AW.reg hS [(9, .pv (.slice (List.map GValue.pv r7))), (10, .pv (.int .i64 r8))] [.var [.pv (.int .i64 w3.kind_), .pv (.str w3.text_), .pv (.str w3.quoted_), .pv (.slice (List.map Word.pv w3.words_)), .pv (.slice (List.map Cmd.pv w3.cmd_))]] ?_ ?_
  · simp -implicitDefEqProofs only [RUNS, qindex, Nat.reduceAdd, Nat.reduceLeDiff, Nat.reduceSub, reduceIte, Nat.reduceEqDiff, Nat.reduceLT, reduceCtorEq, Nat.reduceMul, Nat.reduceBEq, Int.reduceEq, if_true, if_false, eq_self, ne_eq, env_bT, T_3, T_30, T_34, T_54, P31_eq, Redir.pv_eq, P154_eq, Cmd.pv_eq, P32_eq, Word.pv_eq, GValue.pv_eq, P22_eq, Var.pv_eq, P52_eq, GEnv.pv_eq, pf_29, f10]
  refine AW.seq ?_
  refine AW.seq ?_
  refine AW.reg hS [(9, .pv (.slice (List.map GValue.pv r7))), (10, .pv (.int .i64 r8)), (22, .pv (.bool (!decide (r8 = 0))))] [.var [.pv (.int .i64 w3.kind_), .pv (.str w3.text_), .pv (.str w3.quoted_), .pv (.slice (List.map Word.pv w3.words_)), .pv (.slice (List.map Cmd.pv w3.cmd_))]] ?_ ?_
  · simp -implicitDefEqProofs only [RUNS, qindex, Nat.reduceAdd, Nat.reduceLeDiff, Nat.reduceSub, reduceIte, Nat.reduceEqDiff, Nat.reduceLT, reduceCtorEq, Nat.reduceMul, Nat.reduceBEq, Int.reduceEq, if_true, if_false, eq_self, ne_eq, env_bT, T_25, P31_eq, Redir.pv_eq, P154_eq, Cmd.pv_eq, P32_eq, Word.pv_eq, GValue.pv_eq, P22_eq, Var.pv_eq, P52_eq, GEnv.pv_eq, eqT_25]
  refine AW.cond (b := !decide (r8 = 0)) rfl (fun hb11 => ?_) (fun hb11 => ?_)
  · replace h := bif_t hb11 h
    refine AW.seq ?_
    refine AW.reg hS [(6, .nils), (7, .nils), (8, .pv (.int .i64 r8))] [.var [.pv (.int .i64 w3.kind_), .pv (.str w3.text_), .pv (.str w3.quoted_), .pv (.slice (List.map Word.pv w3.words_)), .pv (.slice (List.map Cmd.pv w3.cmd_))]] ?_ ?_
    · simp -implicitDefEqProofs only [RUNS, qindex, Nat.reduceAdd, Nat.reduceLeDiff, Nat.reduceSub, reduceIte, Nat.reduceEqDiff, Nat.reduceLT, reduceCtorEq, Nat.reduceMul, Nat.reduceBEq, Int.reduceEq, if_true, if_false, eq_self, ne_eq, env_bT, P31_eq, Redir.pv_eq, P154_eq, Cmd.pv_eq, P32_eq, Word.pv_eq, GValue.pv_eq, P22_eq, Var.pv_eq, P52_eq, GEnv.pv_eq]
    refine AW.ret ?_
    cases h
    show finish _ _ _ _ _ = _
    first | rfl | (simp [finish, resOf, renArgs, toPV, selObjs, sl])
  · replace h := bif_f hb11 h
    refine AW.skip ?_
    refine AW.seq ?_
    refine AW.reg hS [(9, .pv (.slice (List.map GValue.pv r7))), (11, .nils)] [.var [.pv (.int .i64 w3.kind_), .pv (.str w3.text_), .pv (.str w3.quoted_), .pv (.slice (List.map Word.pv w3.words_)), .pv (.slice (List.map Cmd.pv w3.cmd_))]] ?_ ?_
    · simp -implicitDefEqProofs only [RUNS, qindex, Nat.reduceAdd, Nat.reduceLeDiff, Nat.reduceSub, reduceIte, Nat.reduceEqDiff, Nat.reduceLT, reduceCtorEq, Nat.reduceMul, Nat.reduceBEq, Int.reduceEq, if_true, if_false, eq_self, ne_eq, env_bT, P31_eq, Redir.pv_eq, P154_eq, Cmd.pv_eq, P32_eq, Word.pv_eq, GValue.pv_eq, P22_eq, Var.pv_eq, P52_eq, GEnv.pv_eq]
    refine AW.weak (Weak.own 11 9 1 (by decide) rfl) ?_
    refine AW.weak (Weak.slots (L := [(9, .pv (.slice (List.map GValue.pv r7))), (11, .vec 1 (List.length ([] : List Str)))]) ⟨rfl, rfl, trivial⟩) ?_
    refine AW.seq ?_
    refine AW.seq ?_
    refine AW.reg hS [(9, .pv (.slice (List.map GValue.pv r7))), (11, .vec 1 (List.length ([] : List Str))), (24, .pv (.slice (List.map GValue.pv r7))), (25, .pv (.int .i64 (r7.length : Int))), (26, .pv (.int .i64 0))] [.var [.pv (.int .i64 w3.kind_), .pv (.str w3.text_), .pv (.str w3.quoted_), .pv (.slice (List.map Word.pv w3.words_)), .pv (.slice (List.map Cmd.pv w3.cmd_))], .row 9 1 (List.map PV.str ([] : List Str)) true] ?_ ?_
    · simp -implicitDefEqProofs only [RUNS, qindex, Nat.reduceAdd, Nat.reduceLeDiff, Nat.reduceSub, reduceIte, Nat.reduceEqDiff, Nat.reduceLT, reduceCtorEq, Nat.reduceMul, Nat.reduceBEq, Int.reduceEq, if_true, if_false, eq_self, ne_eq, env_bT, T_45, T_62, P31_eq, Redir.pv_eq, P154_eq, Cmd.pv_eq, P32_eq, Word.pv_eq, GValue.pv_eq, P22_eq, Var.pv_eq, P52_eq, GEnv.pv_eq]
    refine AW.block ?_
    refine AW.weak (Weak.slots (L := [(9, .pv (.slice (List.map GValue.pv r7))), (11, .vec 1 (List.length ([] : List Str))), (24, .pv (.slice (List.map GValue.pv r7))), (25, .pv (.int .i64 (r7.length : Int))), (26, .pv (.int .i64 0))]) ⟨rfl, rfl, rfl, rfl, rfl, trivial⟩) ?_
    refine AW.loopI (α := Nat × Int × (List Str)) (fun (_, i12, l13) => ⟨sl [(9, .pv (.slice (List.map GValue.pv r7))), (11, .vec 1 (List.length l13)), (24, .pv (.slice (List.map GValue.pv r7))), (25, .pv (.int .i64 (r7.length : Int))), (26, .pv (.int .i64 i12))], 39, [.var [.pv (.int .i64 w3.kind_), .pv (.str w3.text_), .pv (.str w3.quoted_), .pv (.slice (List.map Word.pv w3.words_)), .pv (.slice (List.map Cmd.pv w3.cmd_))], .row 9 1 (List.map PV.str l13) true]⟩) (fun x => iter (F17_b1 r7) x.1 x.2 = some (r4, r5, r6)) (fun x => x.1) (BIG, (0, ([] : List Str))) h ?_
    clear h
    intro ⟨n27, i12, l13⟩ h
    replace h := iter_some h; obtain ⟨m16, rfl, h⟩ := h
    rw [F17_b1] at h
    try dsimp only at h
    show AW _ _ _ _ ⟨sl [(9, .pv (.slice (List.map GValue.pv r7))), (11, .vec 1 (List.length l13)), (24, .pv (.slice (List.map GValue.pv r7))), (25, .pv (.int .i64 (r7.length : Int))), (26, .pv (.int .i64 i12))], 39, [.var [.pv (.int .i64 w3.kind_), .pv (.str w3.text_), .pv (.str w3.quoted_), .pv (.slice (List.map Word.pv w3.words_)), .pv (.slice (List.map Cmd.pv w3.cmd_))], .row 9 1 (List.map PV.str l13) true]⟩
    refine AW.seq ?_
    refine AW.reg hS [(9, .pv (.slice (List.map GValue.pv r7))), (11, .vec 1 (List.length l13)), (24, .pv (.slice (List.map GValue.pv r7))), (25, .pv (.int .i64 (r7.length : Int))), (26, .pv (.int .i64 i12)), (27, .pv (.bool (decide (i12 < (r7.length : Int)))))] [.var [.pv (.int .i64 w3.kind_), .pv (.str w3.text_), .pv (.str w3.quoted_), .pv (.slice (List.map Word.pv w3.words_)), .pv (.slice (List.map Cmd.pv w3.cmd_))], .row 9 1 (List.map PV.str l13) true] ?_ ?_
    · simp -implicitDefEqProofs only [RUNS, qindex, Nat.reduceAdd, Nat.reduceLeDiff, Nat.reduceSub, reduceIte, Nat.reduceEqDiff, Nat.reduceLT, reduceCtorEq, Nat.reduceMul, Nat.reduceBEq, Int.reduceEq, if_true, if_false, eq_self, ne_eq, env_bT, T_3, P31_eq, Redir.pv_eq, P154_eq, Cmd.pv_eq, P32_eq, Word.pv_eq, GValue.pv_eq, P22_eq, Var.pv_eq, P52_eq, GEnv.pv_eq, eqT_3]
    refine AW.seq ?_
    refine AW.cond (b := decide (i12 < (r7.length : Int))) rfl (fun hb17 => ?_) (fun hb17 => ?_)
    · replace h := bif_t hb17 h
      refine AW.skip ?_
      refine AW.seq ?_
      refine AW.block ?_
      refine AW.seq ?_
      replace h := Option.bind_eq_some_iff.1 h; obtain ⟨u18, q19, h⟩ := h
      have f20 := lidx_f q19
      refine AW.reg hS [(9, .pv (.slice (List.map GValue.pv r7))), (11, .vec 1 (List.length l13)), (13, .ref 2 0), (24, .pv (.slice (List.map GValue.pv r7))), (25, .pv (.int .i64 (r7.length : Int))), (26, .pv (.int .i64 i12))] [.var [.pv (.int .i64 w3.kind_), .pv (.str w3.text_), .pv (.str w3.quoted_), .pv (.slice (List.map Word.pv w3.words_)), .pv (.slice (List.map Cmd.pv w3.cmd_))], .row 9 1 (List.map PV.str l13) true, .var [.pv (.str u18.text_), .pv (.str u18.marks_)]] ?_ ?_
      · simp -implicitDefEqProofs only [RUNS, qindex, Nat.reduceAdd, Nat.reduceLeDiff, Nat.reduceSub, reduceIte, Nat.reduceEqDiff, Nat.reduceLT, reduceCtorEq, Nat.reduceMul, Nat.reduceBEq, Int.reduceEq, if_true, if_false, eq_self, ne_eq, env_bT, T_45, T_62, P31_eq, Redir.pv_eq, P154_eq, Cmd.pv_eq, P32_eq, Word.pv_eq, GValue.pv_eq, P22_eq, Var.pv_eq, P52_eq, GEnv.pv_eq, f20.1, f20.2.1]
      replace h := Option.bind_eq_some_iff.1 h; obtain ⟨out21, q22, h⟩ := h
      have f23 := appO_f q22
      try simp only [List.length_cons, List.length_nil, Nat.zero_add, Nat.reduceAdd, Nat.reduceLeDiff, Nat.add_zero, Nat.reduceMul] at f23
      refine AW.reg hS [(9, .pv (.slice (List.map GValue.pv r7))), (11, .vec 1 (List.length out21)), (24, .pv (.slice (List.map GValue.pv r7))), (25, .pv (.int .i64 (r7.length : Int))), (26, .pv (.int .i64 i12))] [.var [.pv (.int .i64 w3.kind_), .pv (.str w3.text_), .pv (.str w3.quoted_), .pv (.slice (List.map Word.pv w3.words_)), .pv (.slice (List.map Cmd.pv w3.cmd_))], .row 9 1 (List.map PV.str out21) true, .var [.pv (.str u18.text_), .pv (.str u18.marks_)]] ?_ ?_
      · simp -implicitDefEqProofs only [RUNS, qindex, Nat.reduceAdd, Nat.reduceLeDiff, Nat.reduceSub, reduceIte, Nat.reduceEqDiff, Nat.reduceLT, reduceCtorEq, Nat.reduceMul, Nat.reduceBEq, Int.reduceEq, if_true, if_false, eq_self, ne_eq, env_bT, T_9, T_22, T_62, P31_eq, Redir.pv_eq, P154_eq, Cmd.pv_eq, P32_eq, Word.pv_eq, GValue.pv_eq, P22_eq, Var.pv_eq, P52_eq, GEnv.pv_eq, ownT_22, f23.1, f23.2, str_all] <;> (try simp only [List.length_take, List.length_drop, List.length_map])
      clear f23
      refine AW.reg hS [(9, .pv (.slice (List.map GValue.pv r7))), (11, .vec 1 (List.length out21)), (24, .pv (.slice (List.map GValue.pv r7))), (25, .pv (.int .i64 (r7.length : Int))), (26, .pv (.int .i64 (IntKind.wrap .i64 (i12 + 1))))] [.var [.pv (.int .i64 w3.kind_), .pv (.str w3.text_), .pv (.str w3.quoted_), .pv (.slice (List.map Word.pv w3.words_)), .pv (.slice (List.map Cmd.pv w3.cmd_))], .row 9 1 (List.map PV.str out21) true, .var [.pv (.str u18.text_), .pv (.str u18.marks_)]] ?_ ?_
      · simp -implicitDefEqProofs only [RUNS, qindex, Nat.reduceAdd, Nat.reduceLeDiff, Nat.reduceSub, reduceIte, Nat.reduceEqDiff, Nat.reduceLT, reduceCtorEq, Nat.reduceMul, Nat.reduceBEq, Int.reduceEq, if_true, if_false, eq_self, ne_eq, env_bT, T_3, P31_eq, Redir.pv_eq, P154_eq, Cmd.pv_eq, P32_eq, Word.pv_eq, GValue.pv_eq, P22_eq, Var.pv_eq, P52_eq, GEnv.pv_eq, eqT_3]
      exact ⟨(m16, (IntKind.wrap .i64 (i12 + 1), out21)), h, (Weak.norm (m := 2) (Nat.le_of_ble_eq_true rfl) ⟨rfl, rfl, rfl, rfl, rfl, trivial⟩ rfl rfl rfl), Nat.lt_succ_self _⟩
    · replace h := bif_f hb17 h
      refine AW.exit ?_
      refine AW.seq ?_
      replace h := Option.bind_eq_some_iff.1 h; obtain ⟨r24, q25, h⟩ := h
      have f26 := c_F23 r7 r24 q25
      try dsimp only at f26
      refine AW.reg hS [(6, .pv (.slice (List.map PV.str r24))), (7, .vec 1 (List.length l13)), (8, .pv (.int .i64 0))] [.var [.pv (.int .i64 w3.kind_), .pv (.str w3.text_), .pv (.str w3.quoted_), .pv (.slice (List.map Word.pv w3.words_)), .pv (.slice (List.map Cmd.pv w3.cmd_))], .row 9 1 (List.map PV.str l13) true] ?_ ?_
      · simp -implicitDefEqProofs only [RUNS, qindex, Nat.reduceAdd, Nat.reduceLeDiff, Nat.reduceSub, reduceIte, Nat.reduceEqDiff, Nat.reduceLT, reduceCtorEq, Nat.reduceMul, Nat.reduceBEq, Int.reduceEq, if_true, if_false, eq_self, ne_eq, env_bT, T_45, T_62, P31_eq, Redir.pv_eq, P154_eq, Cmd.pv_eq, P32_eq, Word.pv_eq, GValue.pv_eq, P22_eq, Var.pv_eq, P52_eq, GEnv.pv_eq, pf_23, f26]
      refine AW.ret ?_
      cases h
      show finish _ _ _ _ _ = _
      first | rfl | (simp [finish, resOf, renArgs, toPV, selObjs, sl])

end Go.Abs.U50
