/- The layer 29 laws: the functions walked. -/
import Derived.Test.YtkiajanddmgmnaaDoorD1
set_option linter.unusedVariables false
set_option linter.unusedSimpArgs false
set_option maxRecDepth 8000
namespace Go.Abs.U29
open Go.RowKit Go.Proofs

set_option maxHeartbeats 4000000 in
theorem g_F3 {O : Orc} (hS : Sound env O) (hpf : O.pf = pfn) (c_F7 : C_F7 O) (c_F8 : C_F8 O) (c_F9 : C_F9 O) (c_F10 : C_F10 O) (c_F11 : C_F11 O) (c_F12 : C_F12 O) (c_F13 : C_F13 O) (values1 : List Str) (s2 : Str) (r3 : Bool) (h : F3 values1 s2 = some r3) : Good env 3 [.pv (.slice (List.map PV.str values1)), .pv (.str s2)] [] [.pv (.bool r3)] [] := by
  have pf_7 : O.pf 7 = true := by rw [hpf]; rfl
  have pf_8 : O.pf 8 = true := by rw [hpf]; rfl
  have pf_9 : O.pf 9 = true := by rw [hpf]; rfl
  have pf_10 : O.pf 10 = true := by rw [hpf]; rfl
  have pf_11 : O.pf 11 = true := by rw [hpf]; rfl
  have pf_12 : O.pf 12 = true := by rw [hpf]; rfl
  have pf_13 : O.pf 13 = true := by rw [hpf]; rfl
  refine Good.start (fn := Tryd.f3) (N := 95) fn_3 rfl rfl (by simp) [] _ rfl rfl ?_
  rw [F3] at h
  refine AW.seq ?_
  refine AW.reg hS [(0, .pv (.slice (List.map PV.str values1))), (1, .pv (.str s2))] [] ?_ ?_
  · simp -implicitDefEqProofs only [RUNS, qindex, Nat.reduceAdd, Nat.reduceLeDiff, Nat.reduceSub, reduceIte, Nat.reduceEqDiff, Nat.reduceLT, reduceCtorEq, Nat.reduceMul, Nat.reduceBEq, Int.reduceEq, if_true, if_false, eq_self, ne_eq, env_bT, P22_eq, Var.pv_eq, P72_eq, GEnv.pv_eq, GOp.pv_eq, Ask.pv_eq]
  refine AW.seq ?_
  refine AW.seq ?_
  replace h := Option.bind_eq_some_iff.1 h; obtain ⟨r4, q5, h⟩ := h
  have f6 := c_F7 values1 70000 r4 q5
  try dsimp only at f6
  refine AW.reg hS [(0, .pv (.slice (List.map PV.str values1))), (1, .pv (.str s2)), (24, .pv (.bool (!r4 || decide (70000 < (s2.length : Int)))))] [] ?_ ?_
  · clear h
    (simp -implicitDefEqProofs only [RUNS, qindex, Nat.reduceAdd, Nat.reduceLeDiff, Nat.reduceSub, reduceIte, Nat.reduceEqDiff, Nat.reduceLT, reduceCtorEq, Nat.reduceMul, Nat.reduceBEq, Int.reduceEq, if_true, if_false, eq_self, ne_eq, env_bT, T_3, T_9, T_22, P22_eq, Var.pv_eq, P72_eq, GEnv.pv_eq, GOp.pv_eq, Ask.pv_eq, pf_7, f6, eqT_3]); repeat' (split <;> rename_i hb <;> (try simp only [HBS, ge_iff_le, gt_iff_lt] at hb) <;> simp -implicitDefEqProofs only [RUNS, qindex, Nat.reduceAdd, Nat.reduceLeDiff, Nat.reduceSub, reduceIte, Nat.reduceEqDiff, Nat.reduceLT, reduceCtorEq, Nat.reduceMul, Nat.reduceBEq, Int.reduceEq, if_true, if_false, eq_self, ne_eq, env_bT, T_3, T_9, T_22, P22_eq, Var.pv_eq, P72_eq, GEnv.pv_eq, GOp.pv_eq, Ask.pv_eq, pf_7, f6, eqT_3, *, decide_true, decide_false, Decidable.not_not, not_false_eq_true, not_true_eq_false])
    all_goals (first | (simp only [BOOLS]; done) | (simp [*]; done) | ((try simp only [CLOS, beq_iff_eq, bne_iff_ne, ne_eq] at *) <;> omega) | (simp_all; done) | (simp_all <;> omega))
  refine AW.cond (b := (!r4 || decide (70000 < (s2.length : Int)))) rfl (fun hb7 => ?_) (fun hb7 => ?_)
  · replace h := bif_t hb7 h
    refine AW.seq ?_
    replace h := Option.bind_eq_some_iff.1 h; obtain ⟨r8, q9, h⟩ := h
    have f10 := c_F8 r8 q9
    try dsimp only at f10
    refine AW.reg hS [(4, .pv (.bool r8))] [] ?_ ?_
    · simp -implicitDefEqProofs only [RUNS, qindex, Nat.reduceAdd, Nat.reduceLeDiff, Nat.reduceSub, reduceIte, Nat.reduceEqDiff, Nat.reduceLT, reduceCtorEq, Nat.reduceMul, Nat.reduceBEq, Int.reduceEq, if_true, if_false, eq_self, ne_eq, env_bT, P22_eq, Var.pv_eq, P72_eq, GEnv.pv_eq, GOp.pv_eq, Ask.pv_eq, pf_8, f10]
    refine AW.ret ?_
    cases h
    show finish _ _ _ _ _ = _
    first | rfl | (simp [finish, resOf, renArgs, toPV, selObjs, sl])
  · replace h := bif_f hb7 h
    refine AW.skip ?_
    refine AW.seq ?_
    replace h := Option.bind_eq_some_iff.1 h; obtain ⟨⟨r11, r12⟩, q13, h⟩ := h
    dsimp only at h
    have f14 := c_F9 values1 r11 r12 q13
    try dsimp only at f14
    refine AW.reg hS [(0, .pv (.slice (List.map PV.str values1))), (1, .pv (.str s2)), (5, .pv (.str r11)), (6, .pv (.int .i64 r12))] [] ?_ ?_
    · simp -implicitDefEqProofs only [RUNS, qindex, Nat.reduceAdd, Nat.reduceLeDiff, Nat.reduceSub, reduceIte, Nat.reduceEqDiff, Nat.reduceLT, reduceCtorEq, Nat.reduceMul, Nat.reduceBEq, Int.reduceEq, if_true, if_false, eq_self, ne_eq, env_bT, T_9, T_22, P22_eq, Var.pv_eq, P72_eq, GEnv.pv_eq, GOp.pv_eq, Ask.pv_eq, pf_9, f14]
    refine AW.seq ?_
    replace h := Option.bind_eq_some_iff.1 h; obtain ⟨⟨r15, r16⟩, q17, h⟩ := h
    dsimp only at h
    have f18 := c_F10 values1 r15 r16 q17
    try dsimp only at f18
    refine AW.reg hS [(0, .pv (.slice (List.map PV.str values1))), (1, .pv (.str s2)), (5, .pv (.str r11)), (6, .pv (.int .i64 r12)), (7, .pv (.str r15)), (8, .pv (.int .i64 r16))] [] ?_ ?_
    · simp -implicitDefEqProofs only [RUNS, qindex, Nat.reduceAdd, Nat.reduceLeDiff, Nat.reduceSub, reduceIte, Nat.reduceEqDiff, Nat.reduceLT, reduceCtorEq, Nat.reduceMul, Nat.reduceBEq, Int.reduceEq, if_true, if_false, eq_self, ne_eq, env_bT, T_9, T_22, P22_eq, Var.pv_eq, P72_eq, GEnv.pv_eq, GOp.pv_eq, Ask.pv_eq, pf_10, f18]
    refine AW.seq ?_
    replace h := Option.bind_eq_some_iff.1 h; obtain ⟨⟨r19, r20⟩, q21, h⟩ := h
    dsimp only at h
    have f22 := c_F11 s2 r19 r20 q21
    try dsimp only at f22
    refine AW.reg hS [(0, .pv (.slice (List.map PV.str values1))), (1, .pv (.str s2)), (5, .pv (.str r11)), (6, .pv (.int .i64 r12)), (7, .pv (.str r15)), (8, .pv (.int .i64 r16)), (9, .pv (.slice (List.map PV.str r19))), (10, .pv (.int .i64 r20))] [] ?_ ?_
    · simp -implicitDefEqProofs only [RUNS, qindex, Nat.reduceAdd, Nat.reduceLeDiff, Nat.reduceSub, reduceIte, Nat.reduceEqDiff, Nat.reduceLT, reduceCtorEq, Nat.reduceMul, Nat.reduceBEq, Int.reduceEq, if_true, if_false, eq_self, ne_eq, env_bT, T_9, P22_eq, Var.pv_eq, P72_eq, GEnv.pv_eq, GOp.pv_eq, Ask.pv_eq, pf_11, f22]
    refine AW.seq ?_
    replace h := Option.bind_eq_some_iff.1 h; obtain ⟨⟨r23, r24⟩, q25, h⟩ := h
    dsimp only at h
    have f26 := c_F12 s2 r23 r24 q25
    try dsimp only at f26
    refine AW.reg hS [(0, .pv (.slice (List.map PV.str values1))), (1, .pv (.str s2)), (5, .pv (.str r11)), (6, .pv (.int .i64 r12)), (7, .pv (.str r15)), (8, .pv (.int .i64 r16)), (9, .pv (.slice (List.map PV.str r19))), (10, .pv (.int .i64 r20)), (11, .pv (.slice (List.map PV.str r23))), (12, .pv (.int .i64 r24))] [] ?_ ?_
    · simp -implicitDefEqProofs only [RUNS, qindex, Nat.reduceAdd, Nat.reduceLeDiff, Nat.reduceSub, reduceIte, Nat.reduceEqDiff, Nat.reduceLT, reduceCtorEq, Nat.reduceMul, Nat.reduceBEq, Int.reduceEq, if_true, if_false, eq_self, ne_eq, env_bT, T_9, P22_eq, Var.pv_eq, P72_eq, GEnv.pv_eq, GOp.pv_eq, Ask.pv_eq, pf_12, f26]
    refine AW.seq ?_
    refine AW.seq ?_
    replace h := Option.bind_eq_some_iff.1 h; obtain ⟨r27, q28, h⟩ := h
    have f29 := fun hg => c_F13 r19 r23 r27 (guardO_t q28 hg)
    try dsimp only at f29
    refine AW.reg hS [(0, .pv (.slice (List.map PV.str values1))), (1, .pv (.str s2)), (5, .pv (.str r11)), (6, .pv (.int .i64 r12)), (9, .pv (.slice (List.map PV.str r19))), (10, .pv (.int .i64 r20)), (64, .pv (.bool (((!decide (r11 = r15) || !decide (r12 = r16)) || !r27) || !decide (r20 = r24))))] [] ?_ ?_
    · clear h
      (simp -implicitDefEqProofs only [RUNS, qindex, Nat.reduceAdd, Nat.reduceLeDiff, Nat.reduceSub, reduceIte, Nat.reduceEqDiff, Nat.reduceLT, reduceCtorEq, Nat.reduceMul, Nat.reduceBEq, Int.reduceEq, if_true, if_false, eq_self, ne_eq, env_bT, T_9, T_22, T_25, P22_eq, Var.pv_eq, P72_eq, GEnv.pv_eq, GOp.pv_eq, Ask.pv_eq, eqT_9, eqT_25, pf_13, f29]); repeat' (split <;> rename_i hb <;> (try simp only [HBS, ge_iff_le, gt_iff_lt] at hb) <;> simp -implicitDefEqProofs only [RUNS, qindex, Nat.reduceAdd, Nat.reduceLeDiff, Nat.reduceSub, reduceIte, Nat.reduceEqDiff, Nat.reduceLT, reduceCtorEq, Nat.reduceMul, Nat.reduceBEq, Int.reduceEq, if_true, if_false, eq_self, ne_eq, env_bT, T_9, T_22, T_25, P22_eq, Var.pv_eq, P72_eq, GEnv.pv_eq, GOp.pv_eq, Ask.pv_eq, eqT_9, eqT_25, pf_13, f29, *, decide_true, decide_false, Decidable.not_not, not_false_eq_true, not_true_eq_false])
      all_goals (first | (simp only [BOOLS]; done) | (simp [*]; done) | ((try simp only [CLOS, beq_iff_eq, bne_iff_ne, ne_eq] at *) <;> omega) | (simp_all; done) | (simp_all <;> omega))
    refine AW.cond (b := (((!decide (r11 = r15) || !decide (r12 = r16)) || !r27) || !decide (r20 = r24))) rfl (fun hb30 => ?_) (fun hb30 => ?_)
    · replace h := bif_t hb30 h
      refine AW.seq ?_
      refine AW.reg hS [(4, .pv (.bool false))] [] ?_ ?_
      · simp -implicitDefEqProofs only [RUNS, qindex, Nat.reduceAdd, Nat.reduceLeDiff, Nat.reduceSub, reduceIte, Nat.reduceEqDiff, Nat.reduceLT, reduceCtorEq, Nat.reduceMul, Nat.reduceBEq, Int.reduceEq, if_true, if_false, eq_self, ne_eq, env_bT, P22_eq, Var.pv_eq, P72_eq, GEnv.pv_eq, GOp.pv_eq, Ask.pv_eq]
      refine AW.ret ?_
      cases h
      show finish _ _ _ _ _ = _
      first | rfl | (simp [finish, resOf, renArgs, toPV, selObjs, sl])
    · replace h := bif_f hb30 h
      refine AW.skip ?_
      refine AW.seqJ (α := Unit) (fun _ => ⟨sl [(1, .pv (.str s2)), (9, .pv (.slice (List.map PV.str r19))), (10, .pv (.int .i64 r20))], 95, []⟩) (fun x => F3_j1 r20 r19 s2 x = some r3) ?_ ?_
      · intro _ h
        rw [F3_j1] at h
        try dsimp only at h
        show AW _ _ _ _ ⟨sl [(1, .pv (.str s2)), (9, .pv (.slice (List.map PV.str r19))), (10, .pv (.int .i64 r20))], 95, []⟩
        refine AW.seq ?_
        refine AW.seq ?_
        refine AW.reg hS [(1, .pv (.str s2)), (9, .pv (.slice (List.map PV.str r19))), (81, .pv (.bool (decide (r20 = 0))))] [] ?_ ?_
        · simp -implicitDefEqProofs only [RUNS, qindex, Nat.reduceAdd, Nat.reduceLeDiff, Nat.reduceSub, reduceIte, Nat.reduceEqDiff, Nat.reduceLT, reduceCtorEq, Nat.reduceMul, Nat.reduceBEq, Int.reduceEq, if_true, if_false, eq_self, ne_eq, env_bT, T_25, P22_eq, Var.pv_eq, P72_eq, GEnv.pv_eq, GOp.pv_eq, Ask.pv_eq, eqT_25]
        refine AW.cond (b := decide (r20 = 0)) rfl (fun hb31 => ?_) (fun hb31 => ?_)
        · replace h := bif_t hb31 h
          refine AW.seq ?_
          replace h := Option.bind_eq_some_iff.1 h; obtain ⟨⟨r32, r33⟩, q34, h⟩ := h
          dsimp only at h
          have f35 := c_F9 r19 r32 r33 q34
          try dsimp only at f35
          refine AW.reg hS [(1, .pv (.str s2)), (15, .pv (.str r32)), (16, .pv (.int .i64 r33))] [] ?_ ?_
          · simp -implicitDefEqProofs only [RUNS, qindex, Nat.reduceAdd, Nat.reduceLeDiff, Nat.reduceSub, reduceIte, Nat.reduceEqDiff, Nat.reduceLT, reduceCtorEq, Nat.reduceMul, Nat.reduceBEq, Int.reduceEq, if_true, if_false, eq_self, ne_eq, env_bT, T_9, T_22, P22_eq, Var.pv_eq, P72_eq, GEnv.pv_eq, GOp.pv_eq, Ask.pv_eq, pf_9, f35]
          refine AW.seq ?_
          refine AW.reg hS [(93, .pv (.bool (!decide (r33 = 0) || !decide (r32 = s2))))] [] ?_ ?_
          · clear h
            (simp -implicitDefEqProofs only [RUNS, qindex, Nat.reduceAdd, Nat.reduceLeDiff, Nat.reduceSub, reduceIte, Nat.reduceEqDiff, Nat.reduceLT, reduceCtorEq, Nat.reduceMul, Nat.reduceBEq, Int.reduceEq, if_true, if_false, eq_self, ne_eq, env_bT, T_9, T_25, P22_eq, Var.pv_eq, P72_eq, GEnv.pv_eq, GOp.pv_eq, Ask.pv_eq, eqT_25, eqT_9]); repeat' (split <;> rename_i hb <;> (try simp only [HBS, ge_iff_le, gt_iff_lt] at hb) <;> simp -implicitDefEqProofs only [RUNS, qindex, Nat.reduceAdd, Nat.reduceLeDiff, Nat.reduceSub, reduceIte, Nat.reduceEqDiff, Nat.reduceLT, reduceCtorEq, Nat.reduceMul, Nat.reduceBEq, Int.reduceEq, if_true, if_false, eq_self, ne_eq, env_bT, T_9, T_25, P22_eq, Var.pv_eq, P72_eq, GEnv.pv_eq, GOp.pv_eq, Ask.pv_eq, eqT_25, eqT_9, *, decide_true, decide_false, Decidable.not_not, not_false_eq_true, not_true_eq_false])
            all_goals (first | (simp only [BOOLS]; done) | (simp [*]; done) | ((try simp only [CLOS, beq_iff_eq, bne_iff_ne, ne_eq] at *) <;> omega) | (simp_all; done) | (simp_all <;> omega))
          refine AW.cond (b := (!decide (r33 = 0) || !decide (r32 = s2))) rfl (fun hb36 => ?_) (fun hb36 => ?_)
          · replace h := bif_t hb36 h
            refine AW.seq ?_
            refine AW.reg hS [(4, .pv (.bool false))] [] ?_ ?_
            · simp -implicitDefEqProofs only [RUNS, qindex, Nat.reduceAdd, Nat.reduceLeDiff, Nat.reduceSub, reduceIte, Nat.reduceEqDiff, Nat.reduceLT, reduceCtorEq, Nat.reduceMul, Nat.reduceBEq, Int.reduceEq, if_true, if_false, eq_self, ne_eq, env_bT, P22_eq, Var.pv_eq, P72_eq, GEnv.pv_eq, GOp.pv_eq, Ask.pv_eq]
            refine AW.ret ?_
            cases h
            show finish _ _ _ _ _ = _
            first | rfl | (simp [finish, resOf, renArgs, toPV, selObjs, sl])
          · replace h := bif_f hb36 h
            refine AW.skip ?_
            refine AW.seq ?_
            replace h := Option.bind_eq_some_iff.1 h; obtain ⟨r37, q38, h⟩ := h
            have f39 := c_F8 r37 q38
            try dsimp only at f39
            refine AW.reg hS [(4, .pv (.bool r37))] [] ?_ ?_
            · simp -implicitDefEqProofs only [RUNS, qindex, Nat.reduceAdd, Nat.reduceLeDiff, Nat.reduceSub, reduceIte, Nat.reduceEqDiff, Nat.reduceLT, reduceCtorEq, Nat.reduceMul, Nat.reduceBEq, Int.reduceEq, if_true, if_false, eq_self, ne_eq, env_bT, P22_eq, Var.pv_eq, P72_eq, GEnv.pv_eq, GOp.pv_eq, Ask.pv_eq, pf_8, f39]
            refine AW.ret ?_
            cases h
            show finish _ _ _ _ _ = _
            first | rfl | (simp [finish, resOf, renArgs, toPV, selObjs, sl])
        · replace h := bif_f hb31 h
          refine AW.skip ?_
          refine AW.seq ?_
          replace h := Option.bind_eq_some_iff.1 h; obtain ⟨r40, q41, h⟩ := h
          have f42 := c_F8 r40 q41
          try dsimp only at f42
          refine AW.reg hS [(4, .pv (.bool r40))] [] ?_ ?_
          · simp -implicitDefEqProofs only [RUNS, qindex, Nat.reduceAdd, Nat.reduceLeDiff, Nat.reduceSub, reduceIte, Nat.reduceEqDiff, Nat.reduceLT, reduceCtorEq, Nat.reduceMul, Nat.reduceBEq, Int.reduceEq, if_true, if_false, eq_self, ne_eq, env_bT, P22_eq, Var.pv_eq, P72_eq, GEnv.pv_eq, GOp.pv_eq, Ask.pv_eq, pf_8, f42]
          refine AW.ret ?_
          cases h
          show finish _ _ _ _ _ = _
          first | rfl | (simp [finish, resOf, renArgs, toPV, selObjs, sl])
      refine AW.seq ?_
      refine AW.reg hS [(0, .pv (.slice (List.map PV.str values1))), (1, .pv (.str s2)), (5, .pv (.str r11)), (9, .pv (.slice (List.map PV.str r19))), (10, .pv (.int .i64 r20)), (66, .pv (.bool (decide (r12 = 0))))] [] ?_ ?_
      · simp -implicitDefEqProofs only [RUNS, qindex, Nat.reduceAdd, Nat.reduceLeDiff, Nat.reduceSub, reduceIte, Nat.reduceEqDiff, Nat.reduceLT, reduceCtorEq, Nat.reduceMul, Nat.reduceBEq, Int.reduceEq, if_true, if_false, eq_self, ne_eq, env_bT, T_25, P22_eq, Var.pv_eq, P72_eq, GEnv.pv_eq, GOp.pv_eq, Ask.pv_eq, eqT_25]
      refine AW.cond (b := decide (r12 = 0)) rfl (fun hb43 => ?_) (fun hb43 => ?_)
      · replace h := bif_t hb43 h
        refine AW.seq ?_
        replace h := Option.bind_eq_some_iff.1 h; obtain ⟨⟨r44, r45⟩, q46, h⟩ := h
        dsimp only at h
        have f47 := c_F11 r11 r44 r45 q46
        try dsimp only at f47
        refine AW.reg hS [(0, .pv (.slice (List.map PV.str values1))), (1, .pv (.str s2)), (9, .pv (.slice (List.map PV.str r19))), (10, .pv (.int .i64 r20)), (13, .pv (.slice (List.map PV.str r44))), (14, .pv (.int .i64 r45))] [] ?_ ?_
        · simp -implicitDefEqProofs only [RUNS, qindex, Nat.reduceAdd, Nat.reduceLeDiff, Nat.reduceSub, reduceIte, Nat.reduceEqDiff, Nat.reduceLT, reduceCtorEq, Nat.reduceMul, Nat.reduceBEq, Int.reduceEq, if_true, if_false, eq_self, ne_eq, env_bT, T_9, P22_eq, Var.pv_eq, P72_eq, GEnv.pv_eq, GOp.pv_eq, Ask.pv_eq, pf_11, f47]
        refine AW.seq ?_
        replace h := Option.bind_eq_some_iff.1 h; obtain ⟨r48, q49, h⟩ := h
        have f50 := fun hg => c_F13 r44 values1 r48 (guardO_t q49 hg)
        try dsimp only at f50
        refine AW.reg hS [(1, .pv (.str s2)), (9, .pv (.slice (List.map PV.str r19))), (10, .pv (.int .i64 r20)), (79, .pv (.bool (!decide (r45 = 0) || !r48)))] [] ?_ ?_
        · clear h
          (simp -implicitDefEqProofs only [RUNS, qindex, Nat.reduceAdd, Nat.reduceLeDiff, Nat.reduceSub, reduceIte, Nat.reduceEqDiff, Nat.reduceLT, reduceCtorEq, Nat.reduceMul, Nat.reduceBEq, Int.reduceEq, if_true, if_false, eq_self, ne_eq, env_bT, T_9, T_22, T_25, P22_eq, Var.pv_eq, P72_eq, GEnv.pv_eq, GOp.pv_eq, Ask.pv_eq, eqT_25, pf_13, f50]); repeat' (split <;> rename_i hb <;> (try simp only [HBS, ge_iff_le, gt_iff_lt] at hb) <;> simp -implicitDefEqProofs only [RUNS, qindex, Nat.reduceAdd, Nat.reduceLeDiff, Nat.reduceSub, reduceIte, Nat.reduceEqDiff, Nat.reduceLT, reduceCtorEq, Nat.reduceMul, Nat.reduceBEq, Int.reduceEq, if_true, if_false, eq_self, ne_eq, env_bT, T_9, T_22, T_25, P22_eq, Var.pv_eq, P72_eq, GEnv.pv_eq, GOp.pv_eq, Ask.pv_eq, eqT_25, pf_13, f50, *, decide_true, decide_false, Decidable.not_not, not_false_eq_true, not_true_eq_false])
          all_goals (first | (simp only [BOOLS]; done) | (simp [*]; done) | ((try simp only [CLOS, beq_iff_eq, bne_iff_ne, ne_eq] at *) <;> omega) | (simp_all; done) | (simp_all <;> omega))
        refine AW.cond (b := (!decide (r45 = 0) || !r48)) rfl (fun hb51 => ?_) (fun hb51 => ?_)
        · replace h := bif_t hb51 h
          refine AW.seq ?_
          refine AW.reg hS [(4, .pv (.bool false))] [] ?_ ?_
          · simp -implicitDefEqProofs only [RUNS, qindex, Nat.reduceAdd, Nat.reduceLeDiff, Nat.reduceSub, reduceIte, Nat.reduceEqDiff, Nat.reduceLT, reduceCtorEq, Nat.reduceMul, Nat.reduceBEq, Int.reduceEq, if_true, if_false, eq_self, ne_eq, env_bT, P22_eq, Var.pv_eq, P72_eq, GEnv.pv_eq, GOp.pv_eq, Ask.pv_eq]
          refine AW.ret ?_
          cases h
          show finish _ _ _ _ _ = _
          first | rfl | (simp [finish, resOf, renArgs, toPV, selObjs, sl])
        · replace h := bif_f hb51 h
          refine AW.skip ?_
          exact ⟨(), h, (Weak.norm (m := 0) (Nat.le_of_ble_eq_true rfl) ⟨rfl, rfl, rfl, trivial⟩ rfl rfl rfl)⟩
      · replace h := bif_f hb43 h
        refine AW.skip ?_
        exact ⟨(), h, (Weak.norm (m := 0) (Nat.le_of_ble_eq_true rfl) ⟨rfl, rfl, rfl, trivial⟩ rfl rfl rfl)⟩

set_option maxHeartbeats 4000000 in
theorem g_F14 {O : Orc} (hS : Sound env O) (hpf : O.pf = pfn) (c_F7 : C_F7 O) (l1 : List GEnv) (r2 : Bool) (h : F14 l1 = some r2) : Good env 14 [.pv (.slice (List.map GEnv.pv l1))] [] [.pv (.bool r2)] [] := by
  have pf_7 : O.pf 7 = true := by rw [hpf]; rfl
  refine Good.start (fn := Tryd.f14) (N := 59) fn_14 rfl rfl (by simp) [] _ rfl rfl ?_
  rw [F14] at h
  refine AW.seq ?_
  refine AW.reg hS [(0, .pv (.slice (List.map GEnv.pv l1)))] [] ?_ ?_
  · simp -implicitDefEqProofs only [RUNS, qindex, Nat.reduceAdd, Nat.reduceLeDiff, Nat.reduceSub, reduceIte, Nat.reduceEqDiff, Nat.reduceLT, reduceCtorEq, Nat.reduceMul, Nat.reduceBEq, Int.reduceEq, if_true, if_false, eq_self, ne_eq, env_bT, P22_eq, Var.pv_eq, P72_eq, GEnv.pv_eq, GOp.pv_eq, Ask.pv_eq]
  refine AW.seq ?_
  refine AW.seq ?_
  refine AW.reg hS [(0, .pv (.slice (List.map GEnv.pv l1))), (8, .pv (.bool (decide (70 < (l1.length : Int)))))] [] ?_ ?_
  · simp -implicitDefEqProofs only [RUNS, qindex, Nat.reduceAdd, Nat.reduceLeDiff, Nat.reduceSub, reduceIte, Nat.reduceEqDiff, Nat.reduceLT, reduceCtorEq, Nat.reduceMul, Nat.reduceBEq, Int.reduceEq, if_true, if_false, eq_self, ne_eq, env_bT, T_3, T_32, T_74, P22_eq, Var.pv_eq, P72_eq, GEnv.pv_eq, GOp.pv_eq, Ask.pv_eq, eqT_3]
  refine AW.cond (b := decide (70 < (l1.length : Int))) rfl (fun hb3 => ?_) (fun hb3 => ?_)
  · replace h := bif_t hb3 h
    refine AW.seq ?_
    refine AW.reg hS [(2, .pv (.bool false))] [] ?_ ?_
    · simp -implicitDefEqProofs only [RUNS, qindex, Nat.reduceAdd, Nat.reduceLeDiff, Nat.reduceSub, reduceIte, Nat.reduceEqDiff, Nat.reduceLT, reduceCtorEq, Nat.reduceMul, Nat.reduceBEq, Int.reduceEq, if_true, if_false, eq_self, ne_eq, env_bT, P22_eq, Var.pv_eq, P72_eq, GEnv.pv_eq, GOp.pv_eq, Ask.pv_eq]
    refine AW.ret ?_
    cases h
    show finish _ _ _ _ _ = _
    first | rfl | (simp [finish, resOf, renArgs, toPV, selObjs, sl])
  · replace h := bif_f hb3 h
    refine AW.skip ?_
    refine AW.seq ?_
    refine AW.reg hS [(0, .pv (.slice (List.map GEnv.pv l1))), (3, .pv (.int .i64 0))] [] ?_ ?_
    · simp -implicitDefEqProofs only [RUNS, qindex, Nat.reduceAdd, Nat.reduceLeDiff, Nat.reduceSub, reduceIte, Nat.reduceEqDiff, Nat.reduceLT, reduceCtorEq, Nat.reduceMul, Nat.reduceBEq, Int.reduceEq, if_true, if_false, eq_self, ne_eq, env_bT, P22_eq, Var.pv_eq, P72_eq, GEnv.pv_eq, GOp.pv_eq, Ask.pv_eq]
    refine AW.seq ?_
    refine AW.seq ?_
    refine AW.reg hS [(0, .pv (.slice (List.map GEnv.pv l1))), (3, .pv (.int .i64 0)), (10, .pv (.int .i64 (l1.length : Int))), (11, .pv (.int .i64 0))] [] ?_ ?_
    · simp -implicitDefEqProofs only [RUNS, qindex, Nat.reduceAdd, Nat.reduceLeDiff, Nat.reduceSub, reduceIte, Nat.reduceEqDiff, Nat.reduceLT, reduceCtorEq, Nat.reduceMul, Nat.reduceBEq, Int.reduceEq, if_true, if_false, eq_self, ne_eq, env_bT, T_32, T_74, P22_eq, Var.pv_eq, P72_eq, GEnv.pv_eq, GOp.pv_eq, Ask.pv_eq]
    refine AW.block ?_
    refine AW.weak (Weak.slots (L := [(0, .pv (.slice (List.map GEnv.pv l1))), (3, .pv (.int .i64 0)), (10, .pv (.int .i64 (l1.length : Int))), (11, .pv (.int .i64 0))]) ⟨rfl, rfl, rfl, rfl, trivial⟩) ?_
    refine AW.loopI (α := Nat × Int × Int) (fun (_, n4, i5) => ⟨sl [(0, .pv (.slice (List.map GEnv.pv l1))), (3, .pv (.int .i64 n4)), (10, .pv (.int .i64 (l1.length : Int))), (11, .pv (.int .i64 i5))], 59, []⟩) (fun x => iter (F14_b2 l1) x.1 x.2 = some r2) (fun x => x.1) (BIG, (0, 0)) h ?_
    clear h
    intro ⟨n27, n4, i5⟩ h
    replace h := iter_some h; obtain ⟨m8, rfl, h⟩ := h
    rw [F14_b2] at h
    try dsimp only at h
    show AW _ _ _ _ ⟨sl [(0, .pv (.slice (List.map GEnv.pv l1))), (3, .pv (.int .i64 n4)), (10, .pv (.int .i64 (l1.length : Int))), (11, .pv (.int .i64 i5))], 59, []⟩
    refine AW.seq ?_
    refine AW.reg hS [(0, .pv (.slice (List.map GEnv.pv l1))), (3, .pv (.int .i64 n4)), (10, .pv (.int .i64 (l1.length : Int))), (11, .pv (.int .i64 i5)), (12, .pv (.bool (decide (i5 < (l1.length : Int)))))] [] ?_ ?_
    · simp -implicitDefEqProofs only [RUNS, qindex, Nat.reduceAdd, Nat.reduceLeDiff, Nat.reduceSub, reduceIte, Nat.reduceEqDiff, Nat.reduceLT, reduceCtorEq, Nat.reduceMul, Nat.reduceBEq, Int.reduceEq, if_true, if_false, eq_self, ne_eq, env_bT, T_3, P22_eq, Var.pv_eq, P72_eq, GEnv.pv_eq, GOp.pv_eq, Ask.pv_eq, eqT_3]
    refine AW.seq ?_
    refine AW.cond (b := decide (i5 < (l1.length : Int))) rfl (fun hb9 => ?_) (fun hb9 => ?_)
    · replace h := bif_t hb9 h
      refine AW.skip ?_
      refine AW.seq ?_
      refine AW.block ?_
      refine AW.seq ?_
      refine AW.reg hS [(0, .pv (.slice (List.map GEnv.pv l1))), (3, .pv (.int .i64 n4)), (4, .pv (.int .i64 i5)), (10, .pv (.int .i64 (l1.length : Int))), (11, .pv (.int .i64 i5))] [] ?_ ?_
      · simp -implicitDefEqProofs only [RUNS, qindex, Nat.reduceAdd, Nat.reduceLeDiff, Nat.reduceSub, reduceIte, Nat.reduceEqDiff, Nat.reduceLT, reduceCtorEq, Nat.reduceMul, Nat.reduceBEq, Int.reduceEq, if_true, if_false, eq_self, ne_eq, env_bT, P22_eq, Var.pv_eq, P72_eq, GEnv.pv_eq, GOp.pv_eq, Ask.pv_eq]
      refine AW.seq ?_
      replace h := Option.bind_eq_some_iff.1 h; obtain ⟨u10, q11, h⟩ := h
      have f12 := lidx_f q11
      refine AW.reg hS [(0, .pv (.slice (List.map GEnv.pv l1))), (3, .pv (.int .i64 (IntKind.wrap .i64 (n4 + (u10.vars_.length : Int))))), (4, .pv (.int .i64 i5)), (10, .pv (.int .i64 (l1.length : Int))), (11, .pv (.int .i64 i5))] [] ?_ ?_
      · simp -implicitDefEqProofs only [RUNS, qindex, Nat.reduceAdd, Nat.reduceLeDiff, Nat.reduceSub, reduceIte, Nat.reduceEqDiff, Nat.reduceLT, reduceCtorEq, Nat.reduceMul, Nat.reduceBEq, Int.reduceEq, if_true, if_false, eq_self, ne_eq, env_bT, T_3, T_32, T_72, T_74, T_76, P22_eq, Var.pv_eq, P72_eq, GEnv.pv_eq, GOp.pv_eq, Ask.pv_eq, f12.1, f12.2.1, eqT_3]
      refine AW.seq ?_
      refine AW.seq ?_
      refine AW.reg hS [(0, .pv (.slice (List.map GEnv.pv l1))), (3, .pv (.int .i64 (IntKind.wrap .i64 (n4 + (u10.vars_.length : Int))))), (4, .pv (.int .i64 i5)), (10, .pv (.int .i64 (l1.length : Int))), (11, .pv (.int .i64 i5)), (23, .pv (.bool (decide (200 < IntKind.wrap .i64 (n4 + (u10.vars_.length : Int))))))] [] ?_ ?_
      · simp -implicitDefEqProofs only [RUNS, qindex, Nat.reduceAdd, Nat.reduceLeDiff, Nat.reduceSub, reduceIte, Nat.reduceEqDiff, Nat.reduceLT, reduceCtorEq, Nat.reduceMul, Nat.reduceBEq, Int.reduceEq, if_true, if_false, eq_self, ne_eq, env_bT, T_3, P22_eq, Var.pv_eq, P72_eq, GEnv.pv_eq, GOp.pv_eq, Ask.pv_eq, eqT_3]
      refine AW.cond (b := decide (200 < IntKind.wrap .i64 (n4 + (u10.vars_.length : Int)))) rfl (fun hb13 => ?_) (fun hb13 => ?_)
      · replace h := bif_t hb13 h
        refine AW.seq ?_
        refine AW.reg hS [(2, .pv (.bool false))] [] ?_ ?_
        · simp -implicitDefEqProofs only [RUNS, qindex, Nat.reduceAdd, Nat.reduceLeDiff, Nat.reduceSub, reduceIte, Nat.reduceEqDiff, Nat.reduceLT, reduceCtorEq, Nat.reduceMul, Nat.reduceBEq, Int.reduceEq, if_true, if_false, eq_self, ne_eq, env_bT, P22_eq, Var.pv_eq, P72_eq, GEnv.pv_eq, GOp.pv_eq, Ask.pv_eq]
        refine AW.ret ?_
        cases h
        show finish _ _ _ _ _ = _
        first | rfl | (simp [finish, resOf, renArgs, toPV, selObjs, sl])
      · replace h := bif_f hb13 h
        refine AW.skip ?_
        refine AW.seq ?_
        refine AW.reg hS [(0, .pv (.slice (List.map GEnv.pv l1))), (3, .pv (.int .i64 (IntKind.wrap .i64 (n4 + (u10.vars_.length : Int))))), (4, .pv (.int .i64 i5)), (10, .pv (.int .i64 (l1.length : Int))), (11, .pv (.int .i64 i5)), (29, .pv (.int .i64 (u10.vars_.length : Int))), (30, .pv (.int .i64 0))] [] ?_ ?_
        · simp -implicitDefEqProofs only [RUNS, qindex, Nat.reduceAdd, Nat.reduceLeDiff, Nat.reduceSub, reduceIte, Nat.reduceEqDiff, Nat.reduceLT, reduceCtorEq, Nat.reduceMul, Nat.reduceBEq, Int.reduceEq, if_true, if_false, eq_self, ne_eq, env_bT, T_32, T_72, T_74, T_76, P22_eq, Var.pv_eq, P72_eq, GEnv.pv_eq, GOp.pv_eq, Ask.pv_eq, f12.1, f12.2.1]
        refine AW.block ?_
        refine AW.weak (Weak.slots (L := [(0, .pv (.slice (List.map GEnv.pv l1))), (3, .pv (.int .i64 (IntKind.wrap .i64 (n4 + (u10.vars_.length : Int))))), (4, .pv (.int .i64 i5)), (10, .pv (.int .i64 (l1.length : Int))), (11, .pv (.int .i64 i5)), (29, .pv (.int .i64 (u10.vars_.length : Int))), (30, .pv (.int .i64 0))]) ⟨rfl, rfl, rfl, rfl, rfl, rfl, rfl, trivial⟩) ?_
        refine AW.loopI (α := Nat × Int) (fun (_, i14) => ⟨sl [(0, .pv (.slice (List.map GEnv.pv l1))), (3, .pv (.int .i64 (IntKind.wrap .i64 (n4 + (u10.vars_.length : Int))))), (4, .pv (.int .i64 i5)), (10, .pv (.int .i64 (l1.length : Int))), (11, .pv (.int .i64 i5)), (29, .pv (.int .i64 (u10.vars_.length : Int))), (30, .pv (.int .i64 i14))], 59, []⟩) (fun x => iter (F14_b3 u10 (iter (F14_b2 l1) m8) n4 i5) x.1 x.2 = some r2) (fun x => x.1) (BIG, 0) h ?_
        clear h
        intro ⟨n26, i14⟩ h
        replace h := iter_some h; obtain ⟨m17, rfl, h⟩ := h
        rw [F14_b3] at h
        try dsimp only at h
        show AW _ _ _ _ ⟨sl [(0, .pv (.slice (List.map GEnv.pv l1))), (3, .pv (.int .i64 (IntKind.wrap .i64 (n4 + (u10.vars_.length : Int))))), (4, .pv (.int .i64 i5)), (10, .pv (.int .i64 (l1.length : Int))), (11, .pv (.int .i64 i5)), (29, .pv (.int .i64 (u10.vars_.length : Int))), (30, .pv (.int .i64 i14))], 59, []⟩
        refine AW.seq ?_
        refine AW.reg hS [(0, .pv (.slice (List.map GEnv.pv l1))), (3, .pv (.int .i64 (IntKind.wrap .i64 (n4 + (u10.vars_.length : Int))))), (4, .pv (.int .i64 i5)), (10, .pv (.int .i64 (l1.length : Int))), (11, .pv (.int .i64 i5)), (29, .pv (.int .i64 (u10.vars_.length : Int))), (30, .pv (.int .i64 i14)), (31, .pv (.bool (decide (i14 < (u10.vars_.length : Int)))))] [] ?_ ?_
        · simp -implicitDefEqProofs only [RUNS, qindex, Nat.reduceAdd, Nat.reduceLeDiff, Nat.reduceSub, reduceIte, Nat.reduceEqDiff, Nat.reduceLT, reduceCtorEq, Nat.reduceMul, Nat.reduceBEq, Int.reduceEq, if_true, if_false, eq_self, ne_eq, env_bT, T_3, P22_eq, Var.pv_eq, P72_eq, GEnv.pv_eq, GOp.pv_eq, Ask.pv_eq, eqT_3]
        refine AW.seq ?_
        refine AW.cond (b := decide (i14 < (u10.vars_.length : Int))) rfl (fun hb18 => ?_) (fun hb18 => ?_)
        · replace h := bif_t hb18 h
          refine AW.skip ?_
          refine AW.seq ?_
          refine AW.block ?_
          refine AW.seq ?_
          refine AW.reg hS [(0, .pv (.slice (List.map GEnv.pv l1))), (3, .pv (.int .i64 (IntKind.wrap .i64 (n4 + (u10.vars_.length : Int))))), (4, .pv (.int .i64 i5)), (5, .pv (.int .i64 i14)), (10, .pv (.int .i64 (l1.length : Int))), (11, .pv (.int .i64 i5)), (29, .pv (.int .i64 (u10.vars_.length : Int))), (30, .pv (.int .i64 i14))] [] ?_ ?_
          · simp -implicitDefEqProofs only [RUNS, qindex, Nat.reduceAdd, Nat.reduceLeDiff, Nat.reduceSub, reduceIte, Nat.reduceEqDiff, Nat.reduceLT, reduceCtorEq, Nat.reduceMul, Nat.reduceBEq, Int.reduceEq, if_true, if_false, eq_self, ne_eq, env_bT, P22_eq, Var.pv_eq, P72_eq, GEnv.pv_eq, GOp.pv_eq, Ask.pv_eq]
          refine AW.seq ?_
          replace h := Option.bind_eq_some_iff.1 h; obtain ⟨u19, q20, h⟩ := h
          have f21 := lidx_f q20
          replace h := Option.bind_eq_some_iff.1 h; obtain ⟨r22, q23, h⟩ := h
          have f24 := c_F7 u19.values_ 70000 r22 q23
          try dsimp only at f24
          refine AW.reg hS [(0, .pv (.slice (List.map GEnv.pv l1))), (3, .pv (.int .i64 (IntKind.wrap .i64 (n4 + (u10.vars_.length : Int))))), (4, .pv (.int .i64 i5)), (10, .pv (.int .i64 (l1.length : Int))), (11, .pv (.int .i64 i5)), (29, .pv (.int .i64 (u10.vars_.length : Int))), (30, .pv (.int .i64 i14)), (56, .pv (.bool (!r22 || decide (1000 < (u19.name_.length : Int)))))] [] ?_ ?_
          · clear h
            (simp -implicitDefEqProofs only [RUNS, qindex, Nat.reduceAdd, Nat.reduceLeDiff, Nat.reduceSub, reduceIte, Nat.reduceEqDiff, Nat.reduceLT, reduceCtorEq, Nat.reduceMul, Nat.reduceBEq, Int.reduceEq, if_true, if_false, eq_self, ne_eq, env_bT, T_3, T_9, T_22, T_32, T_72, T_74, T_76, P22_eq, Var.pv_eq, P72_eq, GEnv.pv_eq, GOp.pv_eq, Ask.pv_eq, f12.1, f12.2.1, f21.1, f21.2.1, pf_7, f24, eqT_3]); repeat' (split <;> rename_i hb <;> (try simp only [HBS, ge_iff_le, gt_iff_lt] at hb) <;> simp -implicitDefEqProofs only [RUNS, qindex, Nat.reduceAdd, Nat.reduceLeDiff, Nat.reduceSub, reduceIte, Nat.reduceEqDiff, Nat.reduceLT, reduceCtorEq, Nat.reduceMul, Nat.reduceBEq, Int.reduceEq, if_true, if_false, eq_self, ne_eq, env_bT, T_3, T_9, T_22, T_32, T_72, T_74, T_76, P22_eq, Var.pv_eq, P72_eq, GEnv.pv_eq, GOp.pv_eq, Ask.pv_eq, f12.1, f12.2.1, f21.1, f21.2.1, pf_7, f24, eqT_3, *, decide_true, decide_false, Decidable.not_not, not_false_eq_true, not_true_eq_false])
            all_goals (first | (simp only [BOOLS]; done) | (simp [*]; done) | ((try simp only [CLOS, beq_iff_eq, bne_iff_ne, ne_eq] at *) <;> omega) | (simp_all; done) | (simp_all <;> omega))
          refine AW.cond (b := (!r22 || decide (1000 < (u19.name_.length : Int)))) rfl (fun hb25 => ?_) (fun hb25 => ?_)
          · replace h := bif_t hb25 h
            refine AW.seq ?_
            refine AW.reg hS [(2, .pv (.bool false))] [] ?_ ?_
            · simp -implicitDefEqProofs only [RUNS, qindex, Nat.reduceAdd, Nat.reduceLeDiff, Nat.reduceSub, reduceIte, Nat.reduceEqDiff, Nat.reduceLT, reduceCtorEq, Nat.reduceMul, Nat.reduceBEq, Int.reduceEq, if_true, if_false, eq_self, ne_eq, env_bT, P22_eq, Var.pv_eq, P72_eq, GEnv.pv_eq, GOp.pv_eq, Ask.pv_eq]
            refine AW.ret ?_
            cases h
            show finish _ _ _ _ _ = _
            first | rfl | (simp [finish, resOf, renArgs, toPV, selObjs, sl])
          · replace h := bif_f hb25 h
            refine AW.skip ?_
            refine AW.reg hS [(0, .pv (.slice (List.map GEnv.pv l1))), (3, .pv (.int .i64 (IntKind.wrap .i64 (n4 + (u10.vars_.length : Int))))), (4, .pv (.int .i64 i5)), (10, .pv (.int .i64 (l1.length : Int))), (11, .pv (.int .i64 i5)), (29, .pv (.int .i64 (u10.vars_.length : Int))), (30, .pv (.int .i64 (IntKind.wrap .i64 (i14 + 1))))] [] ?_ ?_
            · simp -implicitDefEqProofs only [RUNS, qindex, Nat.reduceAdd, Nat.reduceLeDiff, Nat.reduceSub, reduceIte, Nat.reduceEqDiff, Nat.reduceLT, reduceCtorEq, Nat.reduceMul, Nat.reduceBEq, Int.reduceEq, if_true, if_false, eq_self, ne_eq, env_bT, T_3, P22_eq, Var.pv_eq, P72_eq, GEnv.pv_eq, GOp.pv_eq, Ask.pv_eq, eqT_3]
            exact ⟨(m17, IntKind.wrap .i64 (i14 + 1)), h, (Weak.norm (m := 0) (Nat.le_of_ble_eq_true rfl) ⟨rfl, rfl, rfl, rfl, rfl, rfl, rfl, trivial⟩ rfl rfl rfl), Nat.lt_succ_self _⟩
        · replace h := bif_f hb18 h
          refine AW.exit ?_
          refine AW.reg hS [(0, .pv (.slice (List.map GEnv.pv l1))), (3, .pv (.int .i64 (IntKind.wrap .i64 (n4 + (u10.vars_.length : Int))))), (10, .pv (.int .i64 (l1.length : Int))), (11, .pv (.int .i64 (IntKind.wrap .i64 (i5 + 1))))] [] ?_ ?_
          · simp -implicitDefEqProofs only [RUNS, qindex, Nat.reduceAdd, Nat.reduceLeDiff, Nat.reduceSub, reduceIte, Nat.reduceEqDiff, Nat.reduceLT, reduceCtorEq, Nat.reduceMul, Nat.reduceBEq, Int.reduceEq, if_true, if_false, eq_self, ne_eq, env_bT, T_3, P22_eq, Var.pv_eq, P72_eq, GEnv.pv_eq, GOp.pv_eq, Ask.pv_eq, eqT_3]
          exact ⟨(m8, (IntKind.wrap .i64 (n4 + (u10.vars_.length : Int)), IntKind.wrap .i64 (i5 + 1))), h, (Weak.norm (m := 0) (Nat.le_of_ble_eq_true rfl) ⟨rfl, rfl, rfl, rfl, trivial⟩ rfl rfl rfl), Nat.lt_succ_self _⟩
    · replace h := bif_f hb9 h
      refine AW.exit ?_
      refine AW.seq ?_
      refine AW.reg hS [(2, .pv (.bool true))] [] ?_ ?_
      · simp -implicitDefEqProofs only [RUNS, qindex, Nat.reduceAdd, Nat.reduceLeDiff, Nat.reduceSub, reduceIte, Nat.reduceEqDiff, Nat.reduceLT, reduceCtorEq, Nat.reduceMul, Nat.reduceBEq, Int.reduceEq, if_true, if_false, eq_self, ne_eq, env_bT, P22_eq, Var.pv_eq, P72_eq, GEnv.pv_eq, GOp.pv_eq, Ask.pv_eq]
      refine AW.ret ?_
      cases h
      show finish _ _ _ _ _ = _
      first | rfl | (simp [finish, resOf, renArgs, toPV, selObjs, sl])

set_option maxHeartbeats 4000000 in
theorem g_F15 {O : Orc} (hS : Sound env O) (hpf : O.pf = pfn) (c_F7 : C_F7 O) (o1 : GOp) (r2 : Bool) (h : F15 o1 = some r2) : Good env 15 [.pv (.agg [.int .i64 o1.kind_, .int .i64 o1.group_, .int .i64 o1.to_, .int .i64 o1.id_, .str o1.name_, .slice (List.map PV.str o1.values_), .int .i64 o1.offset_, .str o1.data_])] [] [.pv (.bool r2)] [] := by
  have pf_7 : O.pf 7 = true := by rw [hpf]; rfl
  refine Good.start (fn := Tryd.f15) (N := 18) fn_15 rfl rfl (by simp) [] _ rfl rfl ?_
  rw [F15] at h
  refine AW.seq ?_
  refine AW.reg hS [(1, .ref 0 0)] [.var [.pv (.int .i64 o1.kind_), .pv (.int .i64 o1.group_), .pv (.int .i64 o1.to_), .pv (.int .i64 o1.id_), .pv (.str o1.name_), .pv (.slice (List.map PV.str o1.values_)), .pv (.int .i64 o1.offset_), .pv (.str o1.data_)]] ?_ ?_
  · simp -implicitDefEqProofs only [RUNS, qindex, Nat.reduceAdd, Nat.reduceLeDiff, Nat.reduceSub, reduceIte, Nat.reduceEqDiff, Nat.reduceLT, reduceCtorEq, Nat.reduceMul, Nat.reduceBEq, Int.reduceEq, if_true, if_false, eq_self, ne_eq, env_bT, T_34, P22_eq, Var.pv_eq, P72_eq, GEnv.pv_eq, GOp.pv_eq, Ask.pv_eq]
  refine AW.seq ?_
  replace h := Option.bind_eq_some_iff.1 h; obtain ⟨r3, q4, h⟩ := h
  have f5 := fun hg => c_F7 o1.values_ 70000 r3 (guardO_t q4 hg)
  try dsimp only at f5
  refine AW.reg hS [(2, .pv (.bool ((decide ((o1.name_.length : Int) ≤ 1000) && r3) && decide ((o1.data_.length : Int) ≤ 70000))))] [.var [.pv (.int .i64 o1.kind_), .pv (.int .i64 o1.group_), .pv (.int .i64 o1.to_), .pv (.int .i64 o1.id_), .pv (.str o1.name_), .pv (.slice (List.map PV.str o1.values_)), .pv (.int .i64 o1.offset_), .pv (.str o1.data_)]] ?_ ?_
  · clear h
    (simp -implicitDefEqProofs only [RUNS, qindex, Nat.reduceAdd, Nat.reduceLeDiff, Nat.reduceSub, reduceIte, Nat.reduceEqDiff, Nat.reduceLT, reduceCtorEq, Nat.reduceMul, Nat.reduceBEq, Int.reduceEq, if_true, if_false, eq_self, ne_eq, env_bT, T_3, T_9, T_22, T_34, P22_eq, Var.pv_eq, P72_eq, GEnv.pv_eq, GOp.pv_eq, Ask.pv_eq, eqT_3, pf_7, f5]); repeat' (split <;> rename_i hb <;> (try simp only [HBS, ge_iff_le, gt_iff_lt] at hb) <;> simp -implicitDefEqProofs only [RUNS, qindex, Nat.reduceAdd, Nat.reduceLeDiff, Nat.reduceSub, reduceIte, Nat.reduceEqDiff, Nat.reduceLT, reduceCtorEq, Nat.reduceMul, Nat.reduceBEq, Int.reduceEq, if_true, if_false, eq_self, ne_eq, env_bT, T_3, T_9, T_22, T_34, P22_eq, Var.pv_eq, P72_eq, GEnv.pv_eq, GOp.pv_eq, Ask.pv_eq, eqT_3, pf_7, f5, *, decide_true, decide_false, Decidable.not_not, not_false_eq_true, not_true_eq_false])
    all_goals (first | (simp only [BOOLS]; done) | (simp [*]; done) | ((try simp only [CLOS, beq_iff_eq, bne_iff_ne, ne_eq] at *) <;> omega) | (simp_all; done) | (simp_all <;> omega))
  refine AW.ret ?_
  cases h
  show finish _ _ _ _ _ = _
  first | rfl | (simp [finish, resOf, renArgs, toPV, selObjs, sl])

set_option maxHeartbeats 4000000 in
theorem g_F40 {O : Orc} (hS : Sound env O) (hpf : O.pf = pfn) (name1 : Str) (r2 : Bool) (h : F40 name1 = some r2) : Good env 40 [.pv (.str name1)] [] [.pv (.bool r2)] [] := by
  refine Good.start (fn := Tryd.f40) (N := 42) fn_40 rfl rfl (by simp) [] _ rfl rfl ?_
  rw [F40] at h
  refine AW.seq ?_
  refine AW.reg hS [(0, .pv (.str name1))] [] ?_ ?_
  · simp -implicitDefEqProofs only [RUNS, qindex, Nat.reduceAdd, Nat.reduceLeDiff, Nat.reduceSub, reduceIte, Nat.reduceEqDiff, Nat.reduceLT, reduceCtorEq, Nat.reduceMul, Nat.reduceBEq, Int.reduceEq, if_true, if_false, eq_self, ne_eq, env_bT, P22_eq, Var.pv_eq, P72_eq, GEnv.pv_eq, GOp.pv_eq, Ask.pv_eq]
  refine AW.seq ?_
  refine AW.seq ?_
  refine AW.reg hS [(0, .pv (.str name1)), (3, .pv (.int .i64 0))] [] ?_ ?_
  · simp -implicitDefEqProofs only [RUNS, qindex, Nat.reduceAdd, Nat.reduceLeDiff, Nat.reduceSub, reduceIte, Nat.reduceEqDiff, Nat.reduceLT, reduceCtorEq, Nat.reduceMul, Nat.reduceBEq, Int.reduceEq, if_true, if_false, eq_self, ne_eq, env_bT, P22_eq, Var.pv_eq, P72_eq, GEnv.pv_eq, GOp.pv_eq, Ask.pv_eq]
  refine AW.block ?_
  refine AW.weak (Weak.slots (L := [(0, .pv (.str name1)), (3, .pv (.int .i64 0))]) ⟨rfl, rfl, trivial⟩) ?_
  refine AW.loopI (α := Nat × Int) (fun (_, i3) => ⟨sl [(0, .pv (.str name1)), (3, .pv (.int .i64 i3))], 42, []⟩) (fun x => iter (F40_b1 name1) x.1 x.2 = some r2) (fun x => x.1) (BIG, 0) h ?_
  clear h
  intro ⟨n12, i3⟩ h
  replace h := iter_some h; obtain ⟨m6, rfl, h⟩ := h
  rw [F40_b1] at h
  try dsimp only at h
  show AW _ _ _ _ ⟨sl [(0, .pv (.str name1)), (3, .pv (.int .i64 i3))], 42, []⟩
  refine AW.seq ?_
  refine AW.seq ?_
  refine AW.reg hS [(0, .pv (.str name1)), (3, .pv (.int .i64 i3)), (7, .pv (.bool (decide (i3 < (name1.length : Int)))))] [] ?_ ?_
  · simp -implicitDefEqProofs only [RUNS, qindex, Nat.reduceAdd, Nat.reduceLeDiff, Nat.reduceSub, reduceIte, Nat.reduceEqDiff, Nat.reduceLT, reduceCtorEq, Nat.reduceMul, Nat.reduceBEq, Int.reduceEq, if_true, if_false, eq_self, ne_eq, env_bT, T_3, T_9, P22_eq, Var.pv_eq, P72_eq, GEnv.pv_eq, GOp.pv_eq, Ask.pv_eq, eqT_3]
  refine AW.cond (b := decide (i3 < (name1.length : Int))) rfl (fun hb7 => ?_) (fun hb7 => ?_)
  · replace h := bif_t hb7 h
    refine AW.skip ?_
    refine AW.seq ?_
    refine AW.block ?_
    refine AW.seq ?_
    replace h := Option.bind_eq_some_iff.1 h; obtain ⟨c8, q9, h⟩ := h
    have f10 := sidx_f q9
    refine AW.reg hS [(0, .pv (.str name1)), (3, .pv (.int .i64 i3)), (25, .pv (.bool ((decide (c8 < 33) || decide (126 < c8)) || decide (c8 = 47))))] [] ?_ ?_
    · clear h
      (simp -implicitDefEqProofs only [RUNS, qindex, Nat.reduceAdd, Nat.reduceLeDiff, Nat.reduceSub, reduceIte, Nat.reduceEqDiff, Nat.reduceLT, reduceCtorEq, Nat.reduceMul, Nat.reduceBEq, Int.reduceEq, if_true, if_false, eq_self, ne_eq, env_bT, T_5, T_9, P22_eq, Var.pv_eq, P72_eq, GEnv.pv_eq, GOp.pv_eq, Ask.pv_eq, f10.1, f10.2.1, f10.2.2, eqT_5]); repeat' (split <;> rename_i hb <;> (try simp only [HBS, ge_iff_le, gt_iff_lt] at hb) <;> simp -implicitDefEqProofs only [RUNS, qindex, Nat.reduceAdd, Nat.reduceLeDiff, Nat.reduceSub, reduceIte, Nat.reduceEqDiff, Nat.reduceLT, reduceCtorEq, Nat.reduceMul, Nat.reduceBEq, Int.reduceEq, if_true, if_false, eq_self, ne_eq, env_bT, T_5, T_9, P22_eq, Var.pv_eq, P72_eq, GEnv.pv_eq, GOp.pv_eq, Ask.pv_eq, f10.1, f10.2.1, f10.2.2, eqT_5, *, decide_true, decide_false, Decidable.not_not, not_false_eq_true, not_true_eq_false])
      all_goals (first | (simp only [BOOLS]; done) | (simp [*]; done) | ((try simp only [CLOS, beq_iff_eq, bne_iff_ne, ne_eq] at *) <;> omega) | (simp_all; done) | (simp_all <;> omega))
    refine AW.cond (b := ((decide (c8 < 33) || decide (126 < c8)) || decide (c8 = 47))) rfl (fun hb11 => ?_) (fun hb11 => ?_)
    · replace h := bif_t hb11 h
      refine AW.seq ?_
      refine AW.reg hS [(2, .pv (.bool false))] [] ?_ ?_
      · simp -implicitDefEqProofs only [RUNS, qindex, Nat.reduceAdd, Nat.reduceLeDiff, Nat.reduceSub, reduceIte, Nat.reduceEqDiff, Nat.reduceLT, reduceCtorEq, Nat.reduceMul, Nat.reduceBEq, Int.reduceEq, if_true, if_false, eq_self, ne_eq, env_bT, P22_eq, Var.pv_eq, P72_eq, GEnv.pv_eq, GOp.pv_eq, Ask.pv_eq]
      refine AW.ret ?_
      cases h
      show finish _ _ _ _ _ = _
      first | rfl | (simp [finish, resOf, renArgs, toPV, selObjs, sl])
    · replace h := bif_f hb11 h
      refine AW.skip ?_
      refine AW.reg hS [(0, .pv (.str name1)), (3, .pv (.int .i64 (IntKind.wrap .i64 (i3 + 1))))] [] ?_ ?_
      · simp -implicitDefEqProofs only [RUNS, qindex, Nat.reduceAdd, Nat.reduceLeDiff, Nat.reduceSub, reduceIte, Nat.reduceEqDiff, Nat.reduceLT, reduceCtorEq, Nat.reduceMul, Nat.reduceBEq, Int.reduceEq, if_true, if_false, eq_self, ne_eq, env_bT, T_3, P22_eq, Var.pv_eq, P72_eq, GEnv.pv_eq, GOp.pv_eq, Ask.pv_eq, eqT_3]
      exact ⟨(m6, IntKind.wrap .i64 (i3 + 1)), h, (Weak.norm (m := 0) (Nat.le_of_ble_eq_true rfl) ⟨rfl, rfl, trivial⟩ rfl rfl rfl), Nat.lt_succ_self _⟩
  · replace h := bif_f hb7 h
    refine AW.exit ?_
    refine AW.seq ?_
    refine AW.reg hS [(2, .pv (.bool (((decide (1 ≤ (name1.length : Int)) && decide ((name1.length : Int) ≤ 64)) && !decide (name1 = [46])) && !decide (name1 = [46, 46]))))] [] ?_ ?_
    · clear h
      (simp -implicitDefEqProofs only [RUNS, qindex, Nat.reduceAdd, Nat.reduceLeDiff, Nat.reduceSub, reduceIte, Nat.reduceEqDiff, Nat.reduceLT, reduceCtorEq, Nat.reduceMul, Nat.reduceBEq, Int.reduceEq, if_true, if_false, eq_self, ne_eq, env_bT, T_3, T_9, P22_eq, Var.pv_eq, P72_eq, GEnv.pv_eq, GOp.pv_eq, Ask.pv_eq, eqT_3, eqT_9]); repeat' (split <;> rename_i hb <;> (try simp only [HBS, ge_iff_le, gt_iff_lt] at hb) <;> simp -implicitDefEqProofs only [RUNS, qindex, Nat.reduceAdd, Nat.reduceLeDiff, Nat.reduceSub, reduceIte, Nat.reduceEqDiff, Nat.reduceLT, reduceCtorEq, Nat.reduceMul, Nat.reduceBEq, Int.reduceEq, if_true, if_false, eq_self, ne_eq, env_bT, T_3, T_9, P22_eq, Var.pv_eq, P72_eq, GEnv.pv_eq, GOp.pv_eq, Ask.pv_eq, eqT_3, eqT_9, *, decide_true, decide_false, Decidable.not_not, not_false_eq_true, not_true_eq_false])
      all_goals (first | (simp only [BOOLS]; done) | (simp [*]; done) | ((try simp only [CLOS, beq_iff_eq, bne_iff_ne, ne_eq] at *) <;> omega) | (simp_all; done) | (simp_all <;> omega))
    refine AW.ret ?_
    cases h
    show finish _ _ _ _ _ = _
    first | rfl | (simp [finish, resOf, renArgs, toPV, selObjs, sl])

set_option maxHeartbeats 4000000 in
theorem g_F41 {O : Orc} (hS : Sound env O) (hpf : O.pf = pfn) (g1 : GEnv) (name2 : Str) (r3 : Int) (h : F41 g1 name2 = some r3) : Good env 41 [.pv (.agg [.int .i64 g1.id_, .int .i64 g1.next_, .slice (List.map Var.pv g1.vars_)]), .pv (.str name2)] [] [.pv (.int .i64 r3)] [] := by
  refine Good.start (fn := Tryd.f41) (N := 22) fn_41 rfl rfl (by simp) [] _ rfl rfl ?_
  rw [F41] at h
  refine AW.seq ?_
  refine AW.reg hS [(1, .pv (.str name2)), (2, .ref 0 0)] [.var [.pv (.int .i64 g1.id_), .pv (.int .i64 g1.next_), .pv (.slice (List.map Var.pv g1.vars_))]] ?_ ?_
  · simp -implicitDefEqProofs only [RUNS, qindex, Nat.reduceAdd, Nat.reduceLeDiff, Nat.reduceSub, reduceIte, Nat.reduceEqDiff, Nat.reduceLT, reduceCtorEq, Nat.reduceMul, Nat.reduceBEq, Int.reduceEq, if_true, if_false, eq_self, ne_eq, env_bT, T_74, P22_eq, Var.pv_eq, P72_eq, GEnv.pv_eq, GOp.pv_eq, Ask.pv_eq]
  refine AW.seq ?_
  refine AW.seq ?_
  refine AW.reg hS [(1, .pv (.str name2)), (2, .ref 0 0), (5, .pv (.int .i64 0))] [.var [.pv (.int .i64 g1.id_), .pv (.int .i64 g1.next_), .pv (.slice (List.map Var.pv g1.vars_))]] ?_ ?_
  · simp -implicitDefEqProofs only [RUNS, qindex, Nat.reduceAdd, Nat.reduceLeDiff, Nat.reduceSub, reduceIte, Nat.reduceEqDiff, Nat.reduceLT, reduceCtorEq, Nat.reduceMul, Nat.reduceBEq, Int.reduceEq, if_true, if_false, eq_self, ne_eq, env_bT, P22_eq, Var.pv_eq, P72_eq, GEnv.pv_eq, GOp.pv_eq, Ask.pv_eq]
  refine AW.block ?_
  refine AW.weak (Weak.slots (L := [(1, .pv (.str name2)), (2, .ref 0 0), (5, .pv (.int .i64 0))]) ⟨rfl, rfl, rfl, trivial⟩) ?_
  refine AW.loopI (α := Nat × Int) (fun (_, i4) => ⟨sl [(1, .pv (.str name2)), (2, .ref 0 0), (5, .pv (.int .i64 i4))], 22, [.var [.pv (.int .i64 g1.id_), .pv (.int .i64 g1.next_), .pv (.slice (List.map Var.pv g1.vars_))]]⟩) (fun x => iter (F41_b1 g1 name2) x.1 x.2 = some r3) (fun x => x.1) (BIG, 0) h ?_
  clear h
  intro ⟨n13, i4⟩ h
  replace h := iter_some h; obtain ⟨m7, rfl, h⟩ := h
  rw [F41_b1] at h
  try dsimp only at h
  show AW _ _ _ _ ⟨sl [(1, .pv (.str name2)), (2, .ref 0 0), (5, .pv (.int .i64 i4))], 22, [.var [.pv (.int .i64 g1.id_), .pv (.int .i64 g1.next_), .pv (.slice (List.map Var.pv g1.vars_))]]⟩
  refine AW.seq ?_
  refine AW.seq ?_
  refine AW.reg hS [(1, .pv (.str name2)), (2, .ref 0 0), (5, .pv (.int .i64 i4)), (10, .pv (.bool (decide (i4 < (g1.vars_.length : Int)))))] [.var [.pv (.int .i64 g1.id_), .pv (.int .i64 g1.next_), .pv (.slice (List.map Var.pv g1.vars_))]] ?_ ?_
  · simp -implicitDefEqProofs only [RUNS, qindex, Nat.reduceAdd, Nat.reduceLeDiff, Nat.reduceSub, reduceIte, Nat.reduceEqDiff, Nat.reduceLT, reduceCtorEq, Nat.reduceMul, Nat.reduceBEq, Int.reduceEq, if_true, if_false, eq_self, ne_eq, env_bT, T_3, T_72, T_74, T_76, P22_eq, Var.pv_eq, P72_eq, GEnv.pv_eq, GOp.pv_eq, Ask.pv_eq, eqT_3]
  refine AW.cond (b := decide (i4 < (g1.vars_.length : Int))) rfl (fun hb8 => ?_) (fun hb8 => ?_)
  · replace h := bif_t hb8 h
    refine AW.skip ?_
    refine AW.seq ?_
    refine AW.block ?_
    refine AW.seq ?_
    replace h := Option.bind_eq_some_iff.1 h; obtain ⟨u9, q10, h⟩ := h
    have f11 := lidx_f q10
    refine AW.reg hS [(1, .pv (.str name2)), (2, .ref 0 0), (5, .pv (.int .i64 i4)), (20, .pv (.bool (decide (u9.name_ = name2))))] [.var [.pv (.int .i64 g1.id_), .pv (.int .i64 g1.next_), .pv (.slice (List.map Var.pv g1.vars_))]] ?_ ?_
    · simp -implicitDefEqProofs only [RUNS, qindex, Nat.reduceAdd, Nat.reduceLeDiff, Nat.reduceSub, reduceIte, Nat.reduceEqDiff, Nat.reduceLT, reduceCtorEq, Nat.reduceMul, Nat.reduceBEq, Int.reduceEq, if_true, if_false, eq_self, ne_eq, env_bT, T_9, T_72, T_74, T_76, P22_eq, Var.pv_eq, P72_eq, GEnv.pv_eq, GOp.pv_eq, Ask.pv_eq, f11.1, f11.2.1, eqT_9]
    refine AW.cond (b := decide (u9.name_ = name2)) rfl (fun hb12 => ?_) (fun hb12 => ?_)
    · replace h := bif_t hb12 h
      refine AW.seq ?_
      refine AW.reg hS [(4, .pv (.int .i64 i4))] [.var [.pv (.int .i64 g1.id_), .pv (.int .i64 g1.next_), .pv (.slice (List.map Var.pv g1.vars_))]] ?_ ?_
      · simp -implicitDefEqProofs only [RUNS, qindex, Nat.reduceAdd, Nat.reduceLeDiff, Nat.reduceSub, reduceIte, Nat.reduceEqDiff, Nat.reduceLT, reduceCtorEq, Nat.reduceMul, Nat.reduceBEq, Int.reduceEq, if_true, if_false, eq_self, ne_eq, env_bT, P22_eq, Var.pv_eq, P72_eq, GEnv.pv_eq, GOp.pv_eq, Ask.pv_eq]
      refine AW.ret ?_
      cases h
      show finish _ _ _ _ _ = _
      first | rfl | (simp [finish, resOf, renArgs, toPV, selObjs, sl])
    · replace h := bif_f hb12 h
      refine AW.skip ?_
      refine AW.reg hS [(1, .pv (.str name2)), (2, .ref 0 0), (5, .pv (.int .i64 (IntKind.wrap .i64 (i4 + 1))))] [.var [.pv (.int .i64 g1.id_), .pv (.int .i64 g1.next_), .pv (.slice (List.map Var.pv g1.vars_))]] ?_ ?_
      · simp -implicitDefEqProofs only [RUNS, qindex, Nat.reduceAdd, Nat.reduceLeDiff, Nat.reduceSub, reduceIte, Nat.reduceEqDiff, Nat.reduceLT, reduceCtorEq, Nat.reduceMul, Nat.reduceBEq, Int.reduceEq, if_true, if_false, eq_self, ne_eq, env_bT, T_3, P22_eq, Var.pv_eq, P72_eq, GEnv.pv_eq, GOp.pv_eq, Ask.pv_eq, eqT_3]
      exact ⟨(m7, IntKind.wrap .i64 (i4 + 1)), h, (Weak.norm (m := 1) (Nat.le_of_ble_eq_true rfl) ⟨rfl, rfl, rfl, trivial⟩ rfl rfl rfl), Nat.lt_succ_self _⟩
  · replace h := bif_f hb8 h
    refine AW.exit ?_
    refine AW.seq ?_
    refine AW.reg hS [(4, .pv (.int .i64 (-1)))] [.var [.pv (.int .i64 g1.id_), .pv (.int .i64 g1.next_), .pv (.slice (List.map Var.pv g1.vars_))]] ?_ ?_
    · simp -implicitDefEqProofs only [RUNS, qindex, Nat.reduceAdd, Nat.reduceLeDiff, Nat.reduceSub, reduceIte, Nat.reduceEqDiff, Nat.reduceLT, reduceCtorEq, Nat.reduceMul, Nat.reduceBEq, Int.reduceEq, if_true, if_false, eq_self, ne_eq, env_bT, P22_eq, Var.pv_eq, P72_eq, GEnv.pv_eq, GOp.pv_eq, Ask.pv_eq]
    refine AW.ret ?_
    cases h
    show finish _ _ _ _ _ = _
    first | rfl | (simp [finish, resOf, renArgs, toPV, selObjs, sl])

set_option maxHeartbeats 4000000 in
theorem g_F16 {O : Orc} (hS : Sound env O) (hpf : O.pf = pfn) (c_F10 : C_F10 O) (c_F40 : C_F40 O) (c_F41 : C_F41 O) (l1 : List GEnv) (r2 : Bool) (h : F16 l1 = some r2) : Good env 16 [.pv (.slice (List.map GEnv.pv l1))] [] [.pv (.bool r2)] [] := by
  have pf_10 : O.pf 10 = true := by rw [hpf]; rfl
  have pf_40 : O.pf 40 = true := by rw [hpf]; rfl
  have pf_41 : O.pf 41 = true := by rw [hpf]; rfl
  refine Good.start (fn := Tryd.f16) (N := 123) fn_16 rfl rfl (by simp) [] _ rfl rfl ?_
  rw [F16] at h
  refine AW.seq ?_
  refine AW.reg hS [(0, .pv (.slice (List.map GEnv.pv l1)))] [] ?_ ?_
  · simp -implicitDefEqProofs only [RUNS, qindex, Nat.reduceAdd, Nat.reduceLeDiff, Nat.reduceSub, reduceIte, Nat.reduceEqDiff, Nat.reduceLT, reduceCtorEq, Nat.reduceMul, Nat.reduceBEq, Int.reduceEq, if_true, if_false, eq_self, ne_eq, env_bT, P22_eq, Var.pv_eq, P72_eq, GEnv.pv_eq, GOp.pv_eq, Ask.pv_eq]
  refine AW.seq ?_
  refine AW.seq ?_
  refine AW.reg hS [(0, .pv (.slice (List.map GEnv.pv l1))), (11, .pv (.bool (decide (64 < (l1.length : Int)))))] [] ?_ ?_
  · simp -implicitDefEqProofs only [RUNS, qindex, Nat.reduceAdd, Nat.reduceLeDiff, Nat.reduceSub, reduceIte, Nat.reduceEqDiff, Nat.reduceLT, reduceCtorEq, Nat.reduceMul, Nat.reduceBEq, Int.reduceEq, if_true, if_false, eq_self, ne_eq, env_bT, T_3, T_32, T_74, P22_eq, Var.pv_eq, P72_eq, GEnv.pv_eq, GOp.pv_eq, Ask.pv_eq, eqT_3]
  refine AW.cond (b := decide (64 < (l1.length : Int))) rfl (fun hb3 => ?_) (fun hb3 => ?_)
  · replace h := bif_t hb3 h
    refine AW.seq ?_
    refine AW.reg hS [(2, .pv (.bool false))] [] ?_ ?_
    · simp -implicitDefEqProofs only [RUNS, qindex, Nat.reduceAdd, Nat.reduceLeDiff, Nat.reduceSub, reduceIte, Nat.reduceEqDiff, Nat.reduceLT, reduceCtorEq, Nat.reduceMul, Nat.reduceBEq, Int.reduceEq, if_true, if_false, eq_self, ne_eq, env_bT, P22_eq, Var.pv_eq, P72_eq, GEnv.pv_eq, GOp.pv_eq, Ask.pv_eq]
    refine AW.ret ?_
    cases h
    show finish _ _ _ _ _ = _
    first | rfl | (simp [finish, resOf, renArgs, toPV, selObjs, sl])
  · replace h := bif_f hb3 h
    refine AW.skip ?_
    refine AW.seq ?_
    refine AW.seq ?_
    refine AW.reg hS [(0, .pv (.slice (List.map GEnv.pv l1))), (3, .pv (.int .i64 0))] [] ?_ ?_
    · simp -implicitDefEqProofs only [RUNS, qindex, Nat.reduceAdd, Nat.reduceLeDiff, Nat.reduceSub, reduceIte, Nat.reduceEqDiff, Nat.reduceLT, reduceCtorEq, Nat.reduceMul, Nat.reduceBEq, Int.reduceEq, if_true, if_false, eq_self, ne_eq, env_bT, P22_eq, Var.pv_eq, P72_eq, GEnv.pv_eq, GOp.pv_eq, Ask.pv_eq]
    refine AW.block ?_
    refine AW.weak (Weak.slots (L := [(0, .pv (.slice (List.map GEnv.pv l1))), (3, .pv (.int .i64 0))]) ⟨rfl, rfl, trivial⟩) ?_
    refine AW.loopI (α := Nat × Int) (fun (_, i4) => ⟨sl [(0, .pv (.slice (List.map GEnv.pv l1))), (3, .pv (.int .i64 i4))], 123, []⟩) (fun x => iter (F16_b2 l1) x.1 x.2 = some r2) (fun x => x.1) (BIG, 0) h ?_
    clear h
    intro ⟨n39, i4⟩ h
    replace h := iter_some h; obtain ⟨m7, rfl, h⟩ := h
    rw [F16_b2] at h
    try dsimp only at h
    show AW _ _ _ _ ⟨sl [(0, .pv (.slice (List.map GEnv.pv l1))), (3, .pv (.int .i64 i4))], 123, []⟩
    refine AW.seq ?_
    refine AW.seq ?_
    refine AW.reg hS [(0, .pv (.slice (List.map GEnv.pv l1))), (3, .pv (.int .i64 i4)), (15, .pv (.bool (decide (i4 < (l1.length : Int)))))] [] ?_ ?_
    · simp -implicitDefEqProofs only [RUNS, qindex, Nat.reduceAdd, Nat.reduceLeDiff, Nat.reduceSub, reduceIte, Nat.reduceEqDiff, Nat.reduceLT, reduceCtorEq, Nat.reduceMul, Nat.reduceBEq, Int.reduceEq, if_true, if_false, eq_self, ne_eq, env_bT, T_3, T_32, T_74, P22_eq, Var.pv_eq, P72_eq, GEnv.pv_eq, GOp.pv_eq, Ask.pv_eq, eqT_3]
    refine AW.cond (b := decide (i4 < (l1.length : Int))) rfl (fun hb8 => ?_) (fun hb8 => ?_)
    · replace h := bif_t hb8 h
      refine AW.skip ?_
      refine AW.seq ?_
      refine AW.block ?_
      refine AW.seq ?_
      replace h := Option.bind_eq_some_iff.1 h; obtain ⟨u9, q10, h⟩ := h
      have f11 := lidx_f q10
      refine AW.reg hS [(0, .pv (.slice (List.map GEnv.pv l1))), (3, .pv (.int .i64 i4)), (4, .ref 0 0)] [.var [.pv (.int .i64 u9.id_), .pv (.int .i64 u9.next_), .pv (.slice (List.map Var.pv u9.vars_))]] ?_ ?_
      · simp -implicitDefEqProofs only [RUNS, qindex, Nat.reduceAdd, Nat.reduceLeDiff, Nat.reduceSub, reduceIte, Nat.reduceEqDiff, Nat.reduceLT, reduceCtorEq, Nat.reduceMul, Nat.reduceBEq, Int.reduceEq, if_true, if_false, eq_self, ne_eq, env_bT, T_32, T_74, P22_eq, Var.pv_eq, P72_eq, GEnv.pv_eq, GOp.pv_eq, Ask.pv_eq, f11.1, f11.2.1]
      refine AW.seq ?_
      refine AW.seq ?_
      replace h := Option.bind_eq_some_iff.1 h; obtain ⟨u12, q13, h⟩ := h
      have f14 := lidx_g (guardO_t q13)
      refine AW.dreg mixed hS (hpf ▸ (by kernel_rfl : orderOK pfn _ = true)) [(0, .pv (.slice (List.map GEnv.pv l1))), (3, .pv (.int .i64 i4)), (4, .ref 0 0), (60, .pv (.bool (((((decide (u9.id_ < 1) || decide (1099511627776 < u9.id_)) || (decide (0 < i4) && decide (u9.id_ ≤ u12.id_))) || decide (u9.next_ < 2)) || decide (1048576 < u9.next_)) || decide (64 < (u9.vars_.length : Int)))))] [.var [.pv (.int .i64 u9.id_), .pv (.int .i64 u9.next_), .pv (.slice (List.map Var.pv u9.vars_))]] ?_ ?_
      · clear h
        (simp -implicitDefEqProofs only [RUNS, qindex, Nat.reduceAdd, Nat.reduceLeDiff, Nat.reduceSub, reduceIte, Nat.reduceEqDiff, Nat.reduceLT, reduceCtorEq, Nat.reduceMul, Nat.reduceBEq, Int.reduceEq, if_true, if_false, eq_self, ne_eq, env_bT, T_3, T_32, T_72, T_74, T_76, P22_eq, Var.pv_eq, P72_eq, GEnv.pv_eq, GOp.pv_eq, Ask.pv_eq, eqT_3, f14.1, f14.2.1]); repeat' (split <;> rename_i hb <;> (try simp only [HBS, ge_iff_le, gt_iff_lt] at hb) <;> simp -implicitDefEqProofs only [RUNS, qindex, Nat.reduceAdd, Nat.reduceLeDiff, Nat.reduceSub, reduceIte, Nat.reduceEqDiff, Nat.reduceLT, reduceCtorEq, Nat.reduceMul, Nat.reduceBEq, Int.reduceEq, if_true, if_false, eq_self, ne_eq, env_bT, T_3, T_32, T_72, T_74, T_76, P22_eq, Var.pv_eq, P72_eq, GEnv.pv_eq, GOp.pv_eq, Ask.pv_eq, eqT_3, f14.1, f14.2.1, *, decide_true, decide_false, Decidable.not_not, not_false_eq_true, not_true_eq_false])
        all_goals (first | (simp only [BOOLS]; done) | (simp [*]; done) | ((try simp only [CLOS, beq_iff_eq, bne_iff_ne, ne_eq] at *) <;> omega) | (simp_all; done) | (simp_all <;> omega))
      refine AW.cond (b := (((((decide (u9.id_ < 1) || decide (1099511627776 < u9.id_)) || (decide (0 < i4) && decide (u9.id_ ≤ u12.id_))) || decide (u9.next_ < 2)) || decide (1048576 < u9.next_)) || decide (64 < (u9.vars_.length : Int)))) rfl (fun hb15 => ?_) (fun hb15 => ?_)
      · replace h := bif_t hb15 h
        refine AW.seq ?_
        refine AW.reg hS [(2, .pv (.bool false))] [.var [.pv (.int .i64 u9.id_), .pv (.int .i64 u9.next_), .pv (.slice (List.map Var.pv u9.vars_))]] ?_ ?_
        · simp -implicitDefEqProofs only [RUNS, qindex, Nat.reduceAdd, Nat.reduceLeDiff, Nat.reduceSub, reduceIte, Nat.reduceEqDiff, Nat.reduceLT, reduceCtorEq, Nat.reduceMul, Nat.reduceBEq, Int.reduceEq, if_true, if_false, eq_self, ne_eq, env_bT, P22_eq, Var.pv_eq, P72_eq, GEnv.pv_eq, GOp.pv_eq, Ask.pv_eq]
        refine AW.ret ?_
        cases h
        show finish _ _ _ _ _ = _
        first | rfl | (simp [finish, resOf, renArgs, toPV, selObjs, sl])
      · replace h := bif_f hb15 h
        refine AW.skip ?_
        refine AW.seq ?_
        refine AW.reg hS [(0, .pv (.slice (List.map GEnv.pv l1))), (3, .pv (.int .i64 i4)), (4, .ref 0 0), (5, .pv (.int .i64 0))] [.var [.pv (.int .i64 u9.id_), .pv (.int .i64 u9.next_), .pv (.slice (List.map Var.pv u9.vars_))]] ?_ ?_
        · simp -implicitDefEqProofs only [RUNS, qindex, Nat.reduceAdd, Nat.reduceLeDiff, Nat.reduceSub, reduceIte, Nat.reduceEqDiff, Nat.reduceLT, reduceCtorEq, Nat.reduceMul, Nat.reduceBEq, Int.reduceEq, if_true, if_false, eq_self, ne_eq, env_bT, P22_eq, Var.pv_eq, P72_eq, GEnv.pv_eq, GOp.pv_eq, Ask.pv_eq]
        refine AW.block ?_
        refine AW.weak (Weak.slots (L := [(0, .pv (.slice (List.map GEnv.pv l1))), (3, .pv (.int .i64 i4)), (4, .ref 0 0), (5, .pv (.int .i64 0))]) ⟨rfl, rfl, rfl, rfl, trivial⟩) ?_
        refine AW.loopI (α := Nat × Int) (fun (_, k16) => ⟨sl [(0, .pv (.slice (List.map GEnv.pv l1))), (3, .pv (.int .i64 i4)), (4, .ref 0 0), (5, .pv (.int .i64 k16))], 123, [.var [.pv (.int .i64 u9.id_), .pv (.int .i64 u9.next_), .pv (.slice (List.map Var.pv u9.vars_))]]⟩) (fun x => iter (F16_b3 u9 (iter (F16_b2 l1) m7) i4) x.1 x.2 = some r2) (fun x => x.1) (BIG, 0) h ?_
        clear h
        intro ⟨n38, k16⟩ h
        replace h := iter_some h; obtain ⟨m19, rfl, h⟩ := h
        rw [F16_b3] at h
        try dsimp only at h
        show AW _ _ _ _ ⟨sl [(0, .pv (.slice (List.map GEnv.pv l1))), (3, .pv (.int .i64 i4)), (4, .ref 0 0), (5, .pv (.int .i64 k16))], 123, [.var [.pv (.int .i64 u9.id_), .pv (.int .i64 u9.next_), .pv (.slice (List.map Var.pv u9.vars_))]]⟩
        refine AW.seq ?_
        refine AW.seq ?_
        refine AW.reg hS [(0, .pv (.slice (List.map GEnv.pv l1))), (3, .pv (.int .i64 i4)), (4, .ref 0 0), (5, .pv (.int .i64 k16)), (65, .pv (.bool (decide (k16 < (u9.vars_.length : Int)))))] [.var [.pv (.int .i64 u9.id_), .pv (.int .i64 u9.next_), .pv (.slice (List.map Var.pv u9.vars_))]] ?_ ?_
        · simp -implicitDefEqProofs only [RUNS, qindex, Nat.reduceAdd, Nat.reduceLeDiff, Nat.reduceSub, reduceIte, Nat.reduceEqDiff, Nat.reduceLT, reduceCtorEq, Nat.reduceMul, Nat.reduceBEq, Int.reduceEq, if_true, if_false, eq_self, ne_eq, env_bT, T_3, T_72, T_74, T_76, P22_eq, Var.pv_eq, P72_eq, GEnv.pv_eq, GOp.pv_eq, Ask.pv_eq, eqT_3]
        refine AW.cond (b := decide (k16 < (u9.vars_.length : Int))) rfl (fun hb20 => ?_) (fun hb20 => ?_)
        · replace h := bif_t hb20 h
          refine AW.skip ?_
          refine AW.seq ?_
          refine AW.block ?_
          refine AW.seq ?_
          replace h := Option.bind_eq_some_iff.1 h; obtain ⟨u21, q22, h⟩ := h
          have f23 := lidx_f q22
          refine AW.reg hS [(0, .pv (.slice (List.map GEnv.pv l1))), (3, .pv (.int .i64 i4)), (4, .ref 0 0), (5, .pv (.int .i64 k16)), (6, .ref 1 0)] [.var [.pv (.int .i64 u9.id_), .pv (.int .i64 u9.next_), .pv (.slice (List.map Var.pv u9.vars_))], .var [.pv (.int .i64 u21.id_), .pv (.str u21.name_), .pv (.slice (List.map PV.str u21.values_))]] ?_ ?_
          · simp -implicitDefEqProofs only [RUNS, qindex, Nat.reduceAdd, Nat.reduceLeDiff, Nat.reduceSub, reduceIte, Nat.reduceEqDiff, Nat.reduceLT, reduceCtorEq, Nat.reduceMul, Nat.reduceBEq, Int.reduceEq, if_true, if_false, eq_self, ne_eq, env_bT, T_72, T_74, T_76, P22_eq, Var.pv_eq, P72_eq, GEnv.pv_eq, GOp.pv_eq, Ask.pv_eq, f23.1, f23.2.1]
          refine AW.seq ?_
          replace h := Option.bind_eq_some_iff.1 h; obtain ⟨⟨r24, r25⟩, q26, h⟩ := h
          dsimp only at h
          have f27 := c_F10 u21.values_ r24 r25 q26
          try dsimp only at f27
          refine AW.reg hS [(0, .pv (.slice (List.map GEnv.pv l1))), (3, .pv (.int .i64 i4)), (4, .ref 0 0), (5, .pv (.int .i64 k16)), (6, .ref 1 0), (8, .pv (.int .i64 r25))] [.var [.pv (.int .i64 u9.id_), .pv (.int .i64 u9.next_), .pv (.slice (List.map Var.pv u9.vars_))], .var [.pv (.int .i64 u21.id_), .pv (.str u21.name_), .pv (.slice (List.map PV.str u21.values_))]] ?_ ?_
          · simp -implicitDefEqProofs only [RUNS, qindex, Nat.reduceAdd, Nat.reduceLeDiff, Nat.reduceSub, reduceIte, Nat.reduceEqDiff, Nat.reduceLT, reduceCtorEq, Nat.reduceMul, Nat.reduceBEq, Int.reduceEq, if_true, if_false, eq_self, ne_eq, env_bT, T_9, T_22, T_76, P22_eq, Var.pv_eq, P72_eq, GEnv.pv_eq, GOp.pv_eq, Ask.pv_eq, pf_10, f27]
          refine AW.seq ?_
          replace h := Option.bind_eq_some_iff.1 h; obtain ⟨r28, q29, h⟩ := h
          have f30 := fun hg => c_F40 u21.name_ r28 (guardO_t q29 hg)
          try dsimp only at f30
          replace h := Option.bind_eq_some_iff.1 h; obtain ⟨r31, q32, h⟩ := h
          have f33 := fun hg => c_F41 u9 u21.name_ r31 (guardO_t q32 hg)
          try dsimp only at f33
          replace h := Option.bind_eq_some_iff.1 h; obtain ⟨u34, q35, h⟩ := h
          have f36 := lidx_g (guardO_t q35)
          refine AW.dreg mixed hS (hpf ▸ (by kernel_rfl : orderOK pfn _ = true)) [(0, .pv (.slice (List.map GEnv.pv l1))), (3, .pv (.int .i64 i4)), (4, .ref 0 0), (5, .pv (.int .i64 k16)), (122, .pv (.bool (((((!decide (r25 = 0) || !r28) || !decide (r31 = k16)) || decide (u21.id_ < 2)) || decide (u9.next_ ≤ u21.id_)) || (decide (0 < k16) && decide (u21.id_ ≤ u34.id_)))))] [.var [.pv (.int .i64 u9.id_), .pv (.int .i64 u9.next_), .pv (.slice (List.map Var.pv u9.vars_))], .var [.pv (.int .i64 u21.id_), .pv (.str u21.name_), .pv (.slice (List.map PV.str u21.values_))]] ?_ ?_
          · clear h
            (simp -implicitDefEqProofs only [RUNS, qindex, Nat.reduceAdd, Nat.reduceLeDiff, Nat.reduceSub, reduceIte, Nat.reduceEqDiff, Nat.reduceLT, reduceCtorEq, Nat.reduceMul, Nat.reduceBEq, Int.reduceEq, if_true, if_false, eq_self, ne_eq, env_bT, T_3, T_9, T_25, T_72, T_74, T_76, P22_eq, Var.pv_eq, P72_eq, GEnv.pv_eq, GOp.pv_eq, Ask.pv_eq, eqT_25, pf_40, f30, pf_41, f33, eqT_3, f36.1, f36.2.1]); repeat' (split <;> rename_i hb <;> (try simp only [HBS, ge_iff_le, gt_iff_lt] at hb) <;> simp -implicitDefEqProofs only [RUNS, qindex, Nat.reduceAdd, Nat.reduceLeDiff, Nat.reduceSub, reduceIte, Nat.reduceEqDiff, Nat.reduceLT, reduceCtorEq, Nat.reduceMul, Nat.reduceBEq, Int.reduceEq, if_true, if_false, eq_self, ne_eq, env_bT, T_3, T_9, T_25, T_72, T_74, T_76, P22_eq, Var.pv_eq, P72_eq, GEnv.pv_eq, GOp.pv_eq, Ask.pv_eq, eqT_25, pf_40, f30, pf_41, f33, eqT_3, f36.1, f36.2.1, *, decide_true, decide_false, Decidable.not_not, not_false_eq_true, not_true_eq_false])
            all_goals (first | (simp only [BOOLS]; done) | (simp [*]; done) | ((try simp only [CLOS, beq_iff_eq, bne_iff_ne, ne_eq] at *) <;> omega) | (simp_all; done) | (simp_all <;> omega))
          refine AW.cond (b := (((((!decide (r25 = 0) || !r28) || !decide (r31 = k16)) || decide (u21.id_ < 2)) || decide (u9.next_ ≤ u21.id_)) || (decide (0 < k16) && decide (u21.id_ ≤ u34.id_)))) rfl (fun hb37 => ?_) (fun hb37 => ?_)
          · replace h := bif_t hb37 h
            refine AW.seq ?_
            refine AW.reg hS [(2, .pv (.bool false))] [.var [.pv (.int .i64 u9.id_), .pv (.int .i64 u9.next_), .pv (.slice (List.map Var.pv u9.vars_))], .var [.pv (.int .i64 u21.id_), .pv (.str u21.name_), .pv (.slice (List.map PV.str u21.values_))]] ?_ ?_
            · simp -implicitDefEqProofs only [RUNS, qindex, Nat.reduceAdd, Nat.reduceLeDiff, Nat.reduceSub, reduceIte, Nat.reduceEqDiff, Nat.reduceLT, reduceCtorEq, Nat.reduceMul, Nat.reduceBEq, Int.reduceEq, if_true, if_false, eq_self, ne_eq, env_bT, P22_eq, Var.pv_eq, P72_eq, GEnv.pv_eq, GOp.pv_eq, Ask.pv_eq]
            refine AW.ret ?_
            cases h
            show finish _ _ _ _ _ = _
            first | rfl | (simp [finish, resOf, renArgs, toPV, selObjs, sl])
          · replace h := bif_f hb37 h
            refine AW.skip ?_
            refine AW.reg hS [(0, .pv (.slice (List.map GEnv.pv l1))), (3, .pv (.int .i64 i4)), (4, .ref 0 0), (5, .pv (.int .i64 (IntKind.wrap .i64 (k16 + 1))))] [.var [.pv (.int .i64 u9.id_), .pv (.int .i64 u9.next_), .pv (.slice (List.map Var.pv u9.vars_))], .var [.pv (.int .i64 u21.id_), .pv (.str u21.name_), .pv (.slice (List.map PV.str u21.values_))]] ?_ ?_
            · simp -implicitDefEqProofs only [RUNS, qindex, Nat.reduceAdd, Nat.reduceLeDiff, Nat.reduceSub, reduceIte, Nat.reduceEqDiff, Nat.reduceLT, reduceCtorEq, Nat.reduceMul, Nat.reduceBEq, Int.reduceEq, if_true, if_false, eq_self, ne_eq, env_bT, T_3, P22_eq, Var.pv_eq, P72_eq, GEnv.pv_eq, GOp.pv_eq, Ask.pv_eq, eqT_3]
            exact ⟨(m19, IntKind.wrap .i64 (k16 + 1)), h, (Weak.norm (m := 1) (Nat.le_of_ble_eq_true rfl) ⟨rfl, rfl, rfl, rfl, trivial⟩ rfl rfl rfl), Nat.lt_succ_self _⟩
        · replace h := bif_f hb20 h
          refine AW.exit ?_
          refine AW.reg hS [(0, .pv (.slice (List.map GEnv.pv l1))), (3, .pv (.int .i64 (IntKind.wrap .i64 (i4 + 1))))] [.var [.pv (.int .i64 u9.id_), .pv (.int .i64 u9.next_), .pv (.slice (List.map Var.pv u9.vars_))]] ?_ ?_
          · simp -implicitDefEqProofs only [RUNS, qindex, Nat.reduceAdd, Nat.reduceLeDiff, Nat.reduceSub, reduceIte, Nat.reduceEqDiff, Nat.reduceLT, reduceCtorEq, Nat.reduceMul, Nat.reduceBEq, Int.reduceEq, if_true, if_false, eq_self, ne_eq, env_bT, T_3, P22_eq, Var.pv_eq, P72_eq, GEnv.pv_eq, GOp.pv_eq, Ask.pv_eq, eqT_3]
          exact ⟨(m7, IntKind.wrap .i64 (i4 + 1)), h, (Weak.norm (m := 0) (Nat.le_of_ble_eq_true rfl) ⟨rfl, rfl, trivial⟩ rfl rfl rfl), Nat.lt_succ_self _⟩
    · replace h := bif_f hb8 h
      refine AW.exit ?_
      refine AW.seq ?_
      refine AW.reg hS [(2, .pv (.bool true))] [] ?_ ?_
      · simp -implicitDefEqProofs only [RUNS, qindex, Nat.reduceAdd, Nat.reduceLeDiff, Nat.reduceSub, reduceIte, Nat.reduceEqDiff, Nat.reduceLT, reduceCtorEq, Nat.reduceMul, Nat.reduceBEq, Int.reduceEq, if_true, if_false, eq_self, ne_eq, env_bT, P22_eq, Var.pv_eq, P72_eq, GEnv.pv_eq, GOp.pv_eq, Ask.pv_eq]
      refine AW.ret ?_
      cases h
      show finish _ _ _ _ _ = _
      first | rfl | (simp [finish, resOf, renArgs, toPV, selObjs, sl])

set_option maxHeartbeats 4000000 in
theorem g_F49 {O : Orc} (hS : Sound env O) (hpf : O.pf = pfn) (c_F13 : C_F13 O) (a1 : Var) (b2 : Var) (r3 : Bool) (h : F49 a1 b2 = some r3) : Good env 49 [.pv (.agg [.int .i64 a1.id_, .str a1.name_, .slice (List.map PV.str a1.values_)]), .pv (.agg [.int .i64 b2.id_, .str b2.name_, .slice (List.map PV.str b2.values_)])] [] [.pv (.bool r3)] [] := by
  have pf_13 : O.pf 13 = true := by rw [hpf]; rfl
  refine Good.start (fn := Tryd.f49) (N := 24) fn_49 rfl rfl (by simp) [] _ rfl rfl ?_
  rw [F49] at h
  refine AW.seq ?_
  refine AW.reg hS [(2, .ref 0 0), (3, .ref 1 0)] [.var [.pv (.int .i64 a1.id_), .pv (.str a1.name_), .pv (.slice (List.map PV.str a1.values_))], .var [.pv (.int .i64 b2.id_), .pv (.str b2.name_), .pv (.slice (List.map PV.str b2.values_))]] ?_ ?_
  · simp -implicitDefEqProofs only [RUNS, qindex, Nat.reduceAdd, Nat.reduceLeDiff, Nat.reduceSub, reduceIte, Nat.reduceEqDiff, Nat.reduceLT, reduceCtorEq, Nat.reduceMul, Nat.reduceBEq, Int.reduceEq, if_true, if_false, eq_self, ne_eq, env_bT, T_76, P22_eq, Var.pv_eq, P72_eq, GEnv.pv_eq, GOp.pv_eq, Ask.pv_eq]
  refine AW.seq ?_
  replace h := Option.bind_eq_some_iff.1 h; obtain ⟨r4, q5, h⟩ := h
  have f6 := fun hg => c_F13 a1.values_ b2.values_ r4 (guardO_t q5 hg)
  try dsimp only at f6
  refine AW.reg hS [(4, .pv (.bool ((decide (a1.id_ = b2.id_) && decide (a1.name_ = b2.name_)) && r4)))] [.var [.pv (.int .i64 a1.id_), .pv (.str a1.name_), .pv (.slice (List.map PV.str a1.values_))], .var [.pv (.int .i64 b2.id_), .pv (.str b2.name_), .pv (.slice (List.map PV.str b2.values_))]] ?_ ?_
  · clear h
    (simp -implicitDefEqProofs only [RUNS, qindex, Nat.reduceAdd, Nat.reduceLeDiff, Nat.reduceSub, reduceIte, Nat.reduceEqDiff, Nat.reduceLT, reduceCtorEq, Nat.reduceMul, Nat.reduceBEq, Int.reduceEq, if_true, if_false, eq_self, ne_eq, env_bT, T_3, T_9, T_22, T_76, P22_eq, Var.pv_eq, P72_eq, GEnv.pv_eq, GOp.pv_eq, Ask.pv_eq, eqT_3, eqT_9, pf_13, f6]); repeat' (split <;> rename_i hb <;> (try simp only [HBS, ge_iff_le, gt_iff_lt] at hb) <;> simp -implicitDefEqProofs only [RUNS, qindex, Nat.reduceAdd, Nat.reduceLeDiff, Nat.reduceSub, reduceIte, Nat.reduceEqDiff, Nat.reduceLT, reduceCtorEq, Nat.reduceMul, Nat.reduceBEq, Int.reduceEq, if_true, if_false, eq_self, ne_eq, env_bT, T_3, T_9, T_22, T_76, P22_eq, Var.pv_eq, P72_eq, GEnv.pv_eq, GOp.pv_eq, Ask.pv_eq, eqT_3, eqT_9, pf_13, f6, *, decide_true, decide_false, Decidable.not_not, not_false_eq_true, not_true_eq_false])
    all_goals (first | (simp only [BOOLS]; done) | (simp [*]; done) | ((try simp only [CLOS, beq_iff_eq, bne_iff_ne, ne_eq] at *) <;> omega) | (simp_all; done) | (simp_all <;> omega))
  refine AW.ret ?_
  cases h
  show finish _ _ _ _ _ = _
  first | rfl | (simp [finish, resOf, renArgs, toPV, selObjs, sl])

set_option maxHeartbeats 4000000 in
theorem g_F18 {O : Orc} (hS : Sound env O) (hpf : O.pf = pfn) (c_F49 : C_F49 O) (a1 : List GEnv) (b2 : List GEnv) (r3 : Bool) (h : F18 a1 b2 = some r3) : Good env 18 [.pv (.slice (List.map GEnv.pv a1)), .pv (.slice (List.map GEnv.pv b2))] [] [.pv (.bool r3)] [] := by
  have pf_49 : O.pf 49 = true := by rw [hpf]; rfl
  refine Good.start (fn := Tryd.f18) (N := 85) fn_18 rfl rfl (by simp) [] _ rfl rfl ?_
  rw [F18] at h
  refine AW.seq ?_
  refine AW.reg hS [(0, .pv (.slice (List.map GEnv.pv a1))), (1, .pv (.slice (List.map GEnv.pv b2)))] [] ?_ ?_
  · simp -implicitDefEqProofs only [RUNS, qindex, Nat.reduceAdd, Nat.reduceLeDiff, Nat.reduceSub, reduceIte, Nat.reduceEqDiff, Nat.reduceLT, reduceCtorEq, Nat.reduceMul, Nat.reduceBEq, Int.reduceEq, if_true, if_false, eq_self, ne_eq, env_bT, P22_eq, Var.pv_eq, P72_eq, GEnv.pv_eq, GOp.pv_eq, Ask.pv_eq]
  refine AW.seq ?_
  refine AW.seq ?_
  refine AW.reg hS [(0, .pv (.slice (List.map GEnv.pv a1))), (1, .pv (.slice (List.map GEnv.pv b2))), (11, .pv (.bool (!decide ((a1.length : Int) = (b2.length : Int)))))] [] ?_ ?_
  · simp -implicitDefEqProofs only [RUNS, qindex, Nat.reduceAdd, Nat.reduceLeDiff, Nat.reduceSub, reduceIte, Nat.reduceEqDiff, Nat.reduceLT, reduceCtorEq, Nat.reduceMul, Nat.reduceBEq, Int.reduceEq, if_true, if_false, eq_self, ne_eq, env_bT, T_3, T_32, T_74, P22_eq, Var.pv_eq, P72_eq, GEnv.pv_eq, GOp.pv_eq, Ask.pv_eq, eqT_3]
  refine AW.cond (b := !decide ((a1.length : Int) = (b2.length : Int))) rfl (fun hb4 => ?_) (fun hb4 => ?_)
  · replace h := bif_t hb4 h
    refine AW.seq ?_
    refine AW.reg hS [(4, .pv (.bool false))] [] ?_ ?_
    · simp -implicitDefEqProofs only [RUNS, qindex, Nat.reduceAdd, Nat.reduceLeDiff, Nat.reduceSub, reduceIte, Nat.reduceEqDiff, Nat.reduceLT, reduceCtorEq, Nat.reduceMul, Nat.reduceBEq, Int.reduceEq, if_true, if_false, eq_self, ne_eq, env_bT, P22_eq, Var.pv_eq, P72_eq, GEnv.pv_eq, GOp.pv_eq, Ask.pv_eq]
    refine AW.ret ?_
    cases h
    show finish _ _ _ _ _ = _
    first | rfl | (simp [finish, resOf, renArgs, toPV, selObjs, sl])
  · replace h := bif_f hb4 h
    refine AW.skip ?_
    refine AW.seq ?_
    refine AW.seq ?_
    refine AW.reg hS [(0, .pv (.slice (List.map GEnv.pv a1))), (1, .pv (.slice (List.map GEnv.pv b2))), (5, .pv (.int .i64 0))] [] ?_ ?_
    · simp -implicitDefEqProofs only [RUNS, qindex, Nat.reduceAdd, Nat.reduceLeDiff, Nat.reduceSub, reduceIte, Nat.reduceEqDiff, Nat.reduceLT, reduceCtorEq, Nat.reduceMul, Nat.reduceBEq, Int.reduceEq, if_true, if_false, eq_self, ne_eq, env_bT, P22_eq, Var.pv_eq, P72_eq, GEnv.pv_eq, GOp.pv_eq, Ask.pv_eq]
    refine AW.block ?_
    refine AW.weak (Weak.slots (L := [(0, .pv (.slice (List.map GEnv.pv a1))), (1, .pv (.slice (List.map GEnv.pv b2))), (5, .pv (.int .i64 0))]) ⟨rfl, rfl, rfl, trivial⟩) ?_
    refine AW.loopI (α := Nat × Int) (fun (_, i5) => ⟨sl [(0, .pv (.slice (List.map GEnv.pv a1))), (1, .pv (.slice (List.map GEnv.pv b2))), (5, .pv (.int .i64 i5))], 85, []⟩) (fun x => iter (F18_b2 a1 b2) x.1 x.2 = some r3) (fun x => x.1) (BIG, 0) h ?_
    clear h
    intro ⟨n33, i5⟩ h
    replace h := iter_some h; obtain ⟨m8, rfl, h⟩ := h
    rw [F18_b2] at h
    try dsimp only at h
    show AW _ _ _ _ ⟨sl [(0, .pv (.slice (List.map GEnv.pv a1))), (1, .pv (.slice (List.map GEnv.pv b2))), (5, .pv (.int .i64 i5))], 85, []⟩
    refine AW.seq ?_
    refine AW.seq ?_
    refine AW.reg hS [(0, .pv (.slice (List.map GEnv.pv a1))), (1, .pv (.slice (List.map GEnv.pv b2))), (5, .pv (.int .i64 i5)), (15, .pv (.bool (decide (i5 < (a1.length : Int)))))] [] ?_ ?_
    · simp -implicitDefEqProofs only [RUNS, qindex, Nat.reduceAdd, Nat.reduceLeDiff, Nat.reduceSub, reduceIte, Nat.reduceEqDiff, Nat.reduceLT, reduceCtorEq, Nat.reduceMul, Nat.reduceBEq, Int.reduceEq, if_true, if_false, eq_self, ne_eq, env_bT, T_3, T_32, T_74, P22_eq, Var.pv_eq, P72_eq, GEnv.pv_eq, GOp.pv_eq, Ask.pv_eq, eqT_3]
    refine AW.cond (b := decide (i5 < (a1.length : Int))) rfl (fun hb9 => ?_) (fun hb9 => ?_)
    · replace h := bif_t hb9 h
      refine AW.skip ?_
      refine AW.seq ?_
      refine AW.block ?_
      refine AW.seq ?_
      refine AW.seq ?_
      replace h := Option.bind_eq_some_iff.1 h; obtain ⟨u10, q11, h⟩ := h
      have f12 := lidx_f q11
      replace h := Option.bind_eq_some_iff.1 h; obtain ⟨u13, q14, h⟩ := h
      have f15 := lidx_f q14
      refine AW.dreg mixed hS (hpf ▸ (by kernel_rfl : orderOK pfn _ = true)) [(0, .pv (.slice (List.map GEnv.pv a1))), (1, .pv (.slice (List.map GEnv.pv b2))), (5, .pv (.int .i64 i5)), (56, .pv (.bool ((!decide (u10.id_ = u13.id_) || !decide (u10.next_ = u13.next_)) || !decide ((u10.vars_.length : Int) = (u13.vars_.length : Int)))))] [] ?_ ?_
      · clear h
        (simp -implicitDefEqProofs only [RUNS, qindex, Nat.reduceAdd, Nat.reduceLeDiff, Nat.reduceSub, reduceIte, Nat.reduceEqDiff, Nat.reduceLT, reduceCtorEq, Nat.reduceMul, Nat.reduceBEq, Int.reduceEq, if_true, if_false, eq_self, ne_eq, env_bT, T_3, T_32, T_72, T_74, T_76, P22_eq, Var.pv_eq, P72_eq, GEnv.pv_eq, GOp.pv_eq, Ask.pv_eq, f12.1, f12.2.1, f15.1, f15.2.1, eqT_3]); repeat' (split <;> rename_i hb <;> (try simp only [HBS, ge_iff_le, gt_iff_lt] at hb) <;> simp -implicitDefEqProofs only [RUNS, qindex, Nat.reduceAdd, Nat.reduceLeDiff, Nat.reduceSub, reduceIte, Nat.reduceEqDiff, Nat.reduceLT, reduceCtorEq, Nat.reduceMul, Nat.reduceBEq, Int.reduceEq, if_true, if_false, eq_self, ne_eq, env_bT, T_3, T_32, T_72, T_74, T_76, P22_eq, Var.pv_eq, P72_eq, GEnv.pv_eq, GOp.pv_eq, Ask.pv_eq, f12.1, f12.2.1, f15.1, f15.2.1, eqT_3, *, decide_true, decide_false, Decidable.not_not, not_false_eq_true, not_true_eq_false])
        all_goals (first | (simp only [BOOLS]; done) | (simp [*]; done) | ((try simp only [CLOS, beq_iff_eq, bne_iff_ne, ne_eq] at *) <;> omega) | (simp_all; done) | (simp_all <;> omega))
      refine AW.cond (b := ((!decide (u10.id_ = u13.id_) || !decide (u10.next_ = u13.next_)) || !decide ((u10.vars_.length : Int) = (u13.vars_.length : Int)))) rfl (fun hb16 => ?_) (fun hb16 => ?_)
      · replace h := bif_t hb16 h
        refine AW.seq ?_
        refine AW.reg hS [(4, .pv (.bool false))] [] ?_ ?_
        · simp -implicitDefEqProofs only [RUNS, qindex, Nat.reduceAdd, Nat.reduceLeDiff, Nat.reduceSub, reduceIte, Nat.reduceEqDiff, Nat.reduceLT, reduceCtorEq, Nat.reduceMul, Nat.reduceBEq, Int.reduceEq, if_true, if_false, eq_self, ne_eq, env_bT, P22_eq, Var.pv_eq, P72_eq, GEnv.pv_eq, GOp.pv_eq, Ask.pv_eq]
        refine AW.ret ?_
        cases h
        show finish _ _ _ _ _ = _
        first | rfl | (simp [finish, resOf, renArgs, toPV, selObjs, sl])
      · replace h := bif_f hb16 h
        refine AW.skip ?_
        refine AW.seq ?_
        refine AW.reg hS [(0, .pv (.slice (List.map GEnv.pv a1))), (1, .pv (.slice (List.map GEnv.pv b2))), (5, .pv (.int .i64 i5)), (6, .pv (.int .i64 0))] [] ?_ ?_
        · simp -implicitDefEqProofs only [RUNS, qindex, Nat.reduceAdd, Nat.reduceLeDiff, Nat.reduceSub, reduceIte, Nat.reduceEqDiff, Nat.reduceLT, reduceCtorEq, Nat.reduceMul, Nat.reduceBEq, Int.reduceEq, if_true, if_false, eq_self, ne_eq, env_bT, P22_eq, Var.pv_eq, P72_eq, GEnv.pv_eq, GOp.pv_eq, Ask.pv_eq]
        refine AW.block ?_
        refine AW.weak (Weak.slots (L := [(0, .pv (.slice (List.map GEnv.pv a1))), (1, .pv (.slice (List.map GEnv.pv b2))), (5, .pv (.int .i64 i5)), (6, .pv (.int .i64 0))]) ⟨rfl, rfl, rfl, rfl, trivial⟩) ?_
        refine AW.loopI (α := Nat × Int) (fun (_, k17) => ⟨sl [(0, .pv (.slice (List.map GEnv.pv a1))), (1, .pv (.slice (List.map GEnv.pv b2))), (5, .pv (.int .i64 i5)), (6, .pv (.int .i64 k17))], 85, []⟩) (fun x => iter (F18_b3 u10 u13 (iter (F18_b2 a1 b2) m8) i5) x.1 x.2 = some r3) (fun x => x.1) (BIG, 0) h ?_
        clear h
        intro ⟨n32, k17⟩ h
        replace h := iter_some h; obtain ⟨m20, rfl, h⟩ := h
        rw [F18_b3] at h
        try dsimp only at h
        show AW _ _ _ _ ⟨sl [(0, .pv (.slice (List.map GEnv.pv a1))), (1, .pv (.slice (List.map GEnv.pv b2))), (5, .pv (.int .i64 i5)), (6, .pv (.int .i64 k17))], 85, []⟩
        refine AW.seq ?_
        refine AW.seq ?_
        refine AW.reg hS [(0, .pv (.slice (List.map GEnv.pv a1))), (1, .pv (.slice (List.map GEnv.pv b2))), (5, .pv (.int .i64 i5)), (6, .pv (.int .i64 k17)), (64, .pv (.bool (decide (k17 < (u10.vars_.length : Int)))))] [] ?_ ?_
        · simp -implicitDefEqProofs only [RUNS, qindex, Nat.reduceAdd, Nat.reduceLeDiff, Nat.reduceSub, reduceIte, Nat.reduceEqDiff, Nat.reduceLT, reduceCtorEq, Nat.reduceMul, Nat.reduceBEq, Int.reduceEq, if_true, if_false, eq_self, ne_eq, env_bT, T_3, T_32, T_72, T_74, T_76, P22_eq, Var.pv_eq, P72_eq, GEnv.pv_eq, GOp.pv_eq, Ask.pv_eq, f12.1, f12.2.1, eqT_3]
        refine AW.cond (b := decide (k17 < (u10.vars_.length : Int))) rfl (fun hb21 => ?_) (fun hb21 => ?_)
        · replace h := bif_t hb21 h
          refine AW.skip ?_
          refine AW.seq ?_
          refine AW.block ?_
          refine AW.seq ?_
          replace h := Option.bind_eq_some_iff.1 h; obtain ⟨u22, q23, h⟩ := h
          have f24 := lidx_f q23
          replace h := Option.bind_eq_some_iff.1 h; obtain ⟨u25, q26, h⟩ := h
          have f27 := lidx_f q26
          replace h := Option.bind_eq_some_iff.1 h; obtain ⟨r28, q29, h⟩ := h
          have f30 := c_F49 u22 u25 r28 q29
          try dsimp only at f30
          refine AW.dreg mixed hS (hpf ▸ (by kernel_rfl : orderOK pfn _ = true)) [(0, .pv (.slice (List.map GEnv.pv a1))), (1, .pv (.slice (List.map GEnv.pv b2))), (5, .pv (.int .i64 i5)), (6, .pv (.int .i64 k17)), (84, .pv (.bool (!r28)))] [] ?_ ?_
          · simp -implicitDefEqProofs only [RUNS, qindex, Nat.reduceAdd, Nat.reduceLeDiff, Nat.reduceSub, reduceIte, Nat.reduceEqDiff, Nat.reduceLT, reduceCtorEq, Nat.reduceMul, Nat.reduceBEq, Int.reduceEq, if_true, if_false, eq_self, ne_eq, env_bT, T_32, T_72, T_74, T_76, P22_eq, Var.pv_eq, P72_eq, GEnv.pv_eq, GOp.pv_eq, Ask.pv_eq, f12.1, f12.2.1, f24.1, f24.2.1, f15.1, f15.2.1, f27.1, f27.2.1, pf_49, f30]
          refine AW.cond (b := !r28) rfl (fun hb31 => ?_) (fun hb31 => ?_)
          · replace h := bif_t hb31 h
            refine AW.seq ?_
            refine AW.reg hS [(4, .pv (.bool false))] [] ?_ ?_
            · simp -implicitDefEqProofs only [RUNS, qindex, Nat.reduceAdd, Nat.reduceLeDiff, Nat.reduceSub, reduceIte, Nat.reduceEqDiff, Nat.reduceLT, reduceCtorEq, Nat.reduceMul, Nat.reduceBEq, Int.reduceEq, if_true, if_false, eq_self, ne_eq, env_bT, P22_eq, Var.pv_eq, P72_eq, GEnv.pv_eq, GOp.pv_eq, Ask.pv_eq]
            refine AW.ret ?_
            cases h
            show finish _ _ _ _ _ = _
            first | rfl | (simp [finish, resOf, renArgs, toPV, selObjs, sl])
          · replace h := bif_f hb31 h
            refine AW.skip ?_
            refine AW.reg hS [(0, .pv (.slice (List.map GEnv.pv a1))), (1, .pv (.slice (List.map GEnv.pv b2))), (5, .pv (.int .i64 i5)), (6, .pv (.int .i64 (IntKind.wrap .i64 (k17 + 1))))] [] ?_ ?_
            · simp -implicitDefEqProofs only [RUNS, qindex, Nat.reduceAdd, Nat.reduceLeDiff, Nat.reduceSub, reduceIte, Nat.reduceEqDiff, Nat.reduceLT, reduceCtorEq, Nat.reduceMul, Nat.reduceBEq, Int.reduceEq, if_true, if_false, eq_self, ne_eq, env_bT, T_3, P22_eq, Var.pv_eq, P72_eq, GEnv.pv_eq, GOp.pv_eq, Ask.pv_eq, eqT_3]
            exact ⟨(m20, IntKind.wrap .i64 (k17 + 1)), h, (Weak.norm (m := 0) (Nat.le_of_ble_eq_true rfl) ⟨rfl, rfl, rfl, rfl, trivial⟩ rfl rfl rfl), Nat.lt_succ_self _⟩
        · replace h := bif_f hb21 h
          refine AW.exit ?_
          refine AW.reg hS [(0, .pv (.slice (List.map GEnv.pv a1))), (1, .pv (.slice (List.map GEnv.pv b2))), (5, .pv (.int .i64 (IntKind.wrap .i64 (i5 + 1))))] [] ?_ ?_
          · simp -implicitDefEqProofs only [RUNS, qindex, Nat.reduceAdd, Nat.reduceLeDiff, Nat.reduceSub, reduceIte, Nat.reduceEqDiff, Nat.reduceLT, reduceCtorEq, Nat.reduceMul, Nat.reduceBEq, Int.reduceEq, if_true, if_false, eq_self, ne_eq, env_bT, T_3, P22_eq, Var.pv_eq, P72_eq, GEnv.pv_eq, GOp.pv_eq, Ask.pv_eq, eqT_3]
          exact ⟨(m8, IntKind.wrap .i64 (i5 + 1)), h, (Weak.norm (m := 0) (Nat.le_of_ble_eq_true rfl) ⟨rfl, rfl, rfl, trivial⟩ rfl rfl rfl), Nat.lt_succ_self _⟩
    · replace h := bif_f hb9 h
      refine AW.exit ?_
      refine AW.seq ?_
      refine AW.reg hS [(4, .pv (.bool true))] [] ?_ ?_
      · simp -implicitDefEqProofs only [RUNS, qindex, Nat.reduceAdd, Nat.reduceLeDiff, Nat.reduceSub, reduceIte, Nat.reduceEqDiff, Nat.reduceLT, reduceCtorEq, Nat.reduceMul, Nat.reduceBEq, Int.reduceEq, if_true, if_false, eq_self, ne_eq, env_bT, P22_eq, Var.pv_eq, P72_eq, GEnv.pv_eq, GOp.pv_eq, Ask.pv_eq]
      refine AW.ret ?_
      cases h
      show finish _ _ _ _ _ = _
      first | rfl | (simp [finish, resOf, renArgs, toPV, selObjs, sl])

set_option maxHeartbeats 4000000 in
theorem g_F4 {O : Orc} (hS : Sound env O) (hpf : O.pf = pfn) (c_F14 : C_F14 O) (c_F15 : C_F15 O) (c_F16 : C_F16 O) (c_F8 : C_F8 O) (c_F17 : C_F17 O) (c_F18 : C_F18 O) (c_F19 : C_F19 O) (c_F13 : C_F13 O) (l1 : List GEnv) (o2 : GOp) (x3 : Ask) (r4 : Bool) (h : F4 l1 o2 x3 = some r4) : Good env 4 [.pv (.slice (List.map GEnv.pv l1)), .pv (.agg [.int .i64 o2.kind_, .int .i64 o2.group_, .int .i64 o2.to_, .int .i64 o2.id_, .str o2.name_, .slice (List.map PV.str o2.values_), .int .i64 o2.offset_, .str o2.data_]), .pv (.agg [.int .i64 x3.group_, .int .i64 x3.id_, .str x3.name_, .int .i64 x3.offset_, .int .i64 x3.count_])] [] [.pv (.bool r4)] [] := by
  have pf_8 : O.pf 8 = true := by rw [hpf]; rfl
  have pf_13 : O.pf 13 = true := by rw [hpf]; rfl
  have pf_14 : O.pf 14 = true := by rw [hpf]; rfl
  have pf_15 : O.pf 15 = true := by rw [hpf]; rfl
  have pf_16 : O.pf 16 = true := by rw [hpf]; rfl
  have pf_17 : O.pf 17 = true := by rw [hpf]; rfl
  have pf_18 : O.pf 18 = true := by rw [hpf]; rfl
  have pf_19 : O.pf 19 = true := by rw [hpf]; rfl
  refine Good.start (fn := Tryd.f4) (N := 118) fn_4 rfl rfl (by simp) [] _ rfl rfl ?_
  rw [F4] at h
  refine AW.seq ?_
  refine AW.reg hS [(0, .pv (.slice (List.map GEnv.pv l1))), (4, .ref 0 0), (5, .ref 1 0)] [.var [.pv (.int .i64 o2.kind_), .pv (.int .i64 o2.group_), .pv (.int .i64 o2.to_), .pv (.int .i64 o2.id_), .pv (.str o2.name_), .pv (.slice (List.map PV.str o2.values_)), .pv (.int .i64 o2.offset_), .pv (.str o2.data_)], .var [.pv (.int .i64 x3.group_), .pv (.int .i64 x3.id_), .pv (.str x3.name_), .pv (.int .i64 x3.offset_), .pv (.int .i64 x3.count_)]] ?_ ?_
  · simp -implicitDefEqProofs only [RUNS, qindex, Nat.reduceAdd, Nat.reduceLeDiff, Nat.reduceSub, reduceIte, Nat.reduceEqDiff, Nat.reduceLT, reduceCtorEq, Nat.reduceMul, Nat.reduceBEq, Int.reduceEq, if_true, if_false, eq_self, ne_eq, env_bT, T_34, T_36, P22_eq, Var.pv_eq, P72_eq, GEnv.pv_eq, GOp.pv_eq, Ask.pv_eq]
  refine AW.seq ?_
  refine AW.seq ?_
  replace h := Option.bind_eq_some_iff.1 h; obtain ⟨r5, q6, h⟩ := h
  have f7 := c_F14 l1 r5 q6
  try dsimp only at f7
  replace h := Option.bind_eq_some_iff.1 h; obtain ⟨r8, q9, h⟩ := h
  have f10 := fun hg => c_F15 o2 r8 (guardO_t q9 hg)
  try dsimp only at f10
  replace h := Option.bind_eq_some_iff.1 h; obtain ⟨r11, q12, h⟩ := h
  have f13 := fun hg => c_F16 l1 r11 (guardO_t q12 hg)
  try dsimp only at f13
  refine AW.reg hS [(0, .pv (.slice (List.map GEnv.pv l1))), (4, .ref 0 0), (5, .ref 1 0), (33, .pv (.bool (((!r5 || !r8) || decide (1000 < (x3.name_.length : Int))) || !r11)))] [.var [.pv (.int .i64 o2.kind_), .pv (.int .i64 o2.group_), .pv (.int .i64 o2.to_), .pv (.int .i64 o2.id_), .pv (.str o2.name_), .pv (.slice (List.map PV.str o2.values_)), .pv (.int .i64 o2.offset_), .pv (.str o2.data_)], .var [.pv (.int .i64 x3.group_), .pv (.int .i64 x3.id_), .pv (.str x3.name_), .pv (.int .i64 x3.offset_), .pv (.int .i64 x3.count_)]] ?_ ?_
  · clear h
    (simp -implicitDefEqProofs only [RUNS, qindex, Nat.reduceAdd, Nat.reduceLeDiff, Nat.reduceSub, reduceIte, Nat.reduceEqDiff, Nat.reduceLT, reduceCtorEq, Nat.reduceMul, Nat.reduceBEq, Int.reduceEq, if_true, if_false, eq_self, ne_eq, env_bT, T_3, T_9, T_32, T_34, T_36, T_74, P22_eq, Var.pv_eq, P72_eq, GEnv.pv_eq, GOp.pv_eq, Ask.pv_eq, pf_14, f7, pf_15, f10, eqT_3, pf_16, f13]); repeat' (split <;> rename_i hb <;> (try simp only [HBS, ge_iff_le, gt_iff_lt] at hb) <;> simp -implicitDefEqProofs only [RUNS, qindex, Nat.reduceAdd, Nat.reduceLeDiff, Nat.reduceSub, reduceIte, Nat.reduceEqDiff, Nat.reduceLT, reduceCtorEq, Nat.reduceMul, Nat.reduceBEq, Int.reduceEq, if_true, if_false, eq_self, ne_eq, env_bT, T_3, T_9, T_32, T_34, T_36, T_74, P22_eq, Var.pv_eq, P72_eq, GEnv.pv_eq, GOp.pv_eq, Ask.pv_eq, pf_14, f7, pf_15, f10, eqT_3, pf_16, f13, *, decide_true, decide_false, Decidable.not_not, not_false_eq_true, not_true_eq_false])
    all_goals (first | (simp only [BOOLS]; done) | (simp [*]; done) | ((try simp only [CLOS, beq_iff_eq, bne_iff_ne, ne_eq] at *) <;> omega) | (simp_all; done) | (simp_all <;> omega))
  refine AW.cond (b := (((!r5 || !r8) || decide (1000 < (x3.name_.length : Int))) || !r11)) rfl (fun hb14 => ?_) (fun hb14 => ?_)
  · replace h := bif_t hb14 h
    refine AW.seq ?_
    replace h := Option.bind_eq_some_iff.1 h; obtain ⟨r15, q16, h⟩ := h
    have f17 := c_F8 r15 q16
    try dsimp only at f17
    refine AW.reg hS [(6, .pv (.bool r15))] [.var [.pv (.int .i64 o2.kind_), .pv (.int .i64 o2.group_), .pv (.int .i64 o2.to_), .pv (.int .i64 o2.id_), .pv (.str o2.name_), .pv (.slice (List.map PV.str o2.values_)), .pv (.int .i64 o2.offset_), .pv (.str o2.data_)], .var [.pv (.int .i64 x3.group_), .pv (.int .i64 x3.id_), .pv (.str x3.name_), .pv (.int .i64 x3.offset_), .pv (.int .i64 x3.count_)]] ?_ ?_
    · simp -implicitDefEqProofs only [RUNS, qindex, Nat.reduceAdd, Nat.reduceLeDiff, Nat.reduceSub, reduceIte, Nat.reduceEqDiff, Nat.reduceLT, reduceCtorEq, Nat.reduceMul, Nat.reduceBEq, Int.reduceEq, if_true, if_false, eq_self, ne_eq, env_bT, P22_eq, Var.pv_eq, P72_eq, GEnv.pv_eq, GOp.pv_eq, Ask.pv_eq, pf_8, f17]
    refine AW.ret ?_
    cases h
    show finish _ _ _ _ _ = _
    first | rfl | (simp [finish, resOf, renArgs, toPV, selObjs, sl])
  · replace h := bif_f hb14 h
    refine AW.skip ?_
    refine AW.seq ?_
    replace h := Option.bind_eq_some_iff.1 h; obtain ⟨⟨r18, r19⟩, q20, h⟩ := h
    dsimp only at h
    have f21 := c_F17 l1 o2.group_ o2.name_ o2.values_ r18 r19 q20
    try dsimp only at f21
    refine AW.reg hS [(0, .pv (.slice (List.map GEnv.pv l1))), (4, .ref 0 0), (5, .ref 1 0), (7, .pv (.slice (List.map GEnv.pv r18))), (8, .pv (.int .i64 r19))] [.var [.pv (.int .i64 o2.kind_), .pv (.int .i64 o2.group_), .pv (.int .i64 o2.to_), .pv (.int .i64 o2.id_), .pv (.str o2.name_), .pv (.slice (List.map PV.str o2.values_)), .pv (.int .i64 o2.offset_), .pv (.str o2.data_)], .var [.pv (.int .i64 x3.group_), .pv (.int .i64 x3.id_), .pv (.str x3.name_), .pv (.int .i64 x3.offset_), .pv (.int .i64 x3.count_)]] ?_ ?_
    · simp -implicitDefEqProofs only [RUNS, qindex, Nat.reduceAdd, Nat.reduceLeDiff, Nat.reduceSub, reduceIte, Nat.reduceEqDiff, Nat.reduceLT, reduceCtorEq, Nat.reduceMul, Nat.reduceBEq, Int.reduceEq, if_true, if_false, eq_self, ne_eq, env_bT, T_3, T_9, T_22, T_32, T_34, T_74, P22_eq, Var.pv_eq, P72_eq, GEnv.pv_eq, GOp.pv_eq, Ask.pv_eq, pf_17, f21]
    refine AW.seq ?_
    refine AW.seq ?_
    refine AW.reg hS [(0, .pv (.slice (List.map GEnv.pv l1))), (4, .ref 0 0), (5, .ref 1 0), (7, .pv (.slice (List.map GEnv.pv r18))), (47, .pv (.bool (!decide (r19 = 0))))] [.var [.pv (.int .i64 o2.kind_), .pv (.int .i64 o2.group_), .pv (.int .i64 o2.to_), .pv (.int .i64 o2.id_), .pv (.str o2.name_), .pv (.slice (List.map PV.str o2.values_)), .pv (.int .i64 o2.offset_), .pv (.str o2.data_)], .var [.pv (.int .i64 x3.group_), .pv (.int .i64 x3.id_), .pv (.str x3.name_), .pv (.int .i64 x3.offset_), .pv (.int .i64 x3.count_)]] ?_ ?_
    · simp -implicitDefEqProofs only [RUNS, qindex, Nat.reduceAdd, Nat.reduceLeDiff, Nat.reduceSub, reduceIte, Nat.reduceEqDiff, Nat.reduceLT, reduceCtorEq, Nat.reduceMul, Nat.reduceBEq, Int.reduceEq, if_true, if_false, eq_self, ne_eq, env_bT, T_25, P22_eq, Var.pv_eq, P72_eq, GEnv.pv_eq, GOp.pv_eq, Ask.pv_eq, eqT_25]
    refine AW.cond (b := !decide (r19 = 0)) rfl (fun hb22 => ?_) (fun hb22 => ?_)
    · replace h := bif_t hb22 h
      refine AW.seq ?_
      replace h := Option.bind_eq_some_iff.1 h; obtain ⟨r23, q24, h⟩ := h
      have f25 := c_F18 r18 l1 r23 q24
      try dsimp only at f25
      replace h := Option.bind_eq_some_iff.1 h; obtain ⟨r26, q27, h⟩ := h
      have f28 := fun hg => c_F8 r26 (guardO_t q27 hg)
      try dsimp only at f28
      refine AW.reg hS [(6, .pv (.bool (r23 && r26)))] [.var [.pv (.int .i64 o2.kind_), .pv (.int .i64 o2.group_), .pv (.int .i64 o2.to_), .pv (.int .i64 o2.id_), .pv (.str o2.name_), .pv (.slice (List.map PV.str o2.values_)), .pv (.int .i64 o2.offset_), .pv (.str o2.data_)], .var [.pv (.int .i64 x3.group_), .pv (.int .i64 x3.id_), .pv (.str x3.name_), .pv (.int .i64 x3.offset_), .pv (.int .i64 x3.count_)]] ?_ ?_
      · clear h
        (simp -implicitDefEqProofs only [RUNS, qindex, Nat.reduceAdd, Nat.reduceLeDiff, Nat.reduceSub, reduceIte, Nat.reduceEqDiff, Nat.reduceLT, reduceCtorEq, Nat.reduceMul, Nat.reduceBEq, Int.reduceEq, if_true, if_false, eq_self, ne_eq, env_bT, T_32, T_74, P22_eq, Var.pv_eq, P72_eq, GEnv.pv_eq, GOp.pv_eq, Ask.pv_eq, pf_18, f25, pf_8, f28]); repeat' (split <;> rename_i hb <;> (try simp only [HBS, ge_iff_le, gt_iff_lt] at hb) <;> simp -implicitDefEqProofs only [RUNS, qindex, Nat.reduceAdd, Nat.reduceLeDiff, Nat.reduceSub, reduceIte, Nat.reduceEqDiff, Nat.reduceLT, reduceCtorEq, Nat.reduceMul, Nat.reduceBEq, Int.reduceEq, if_true, if_false, eq_self, ne_eq, env_bT, T_32, T_74, P22_eq, Var.pv_eq, P72_eq, GEnv.pv_eq, GOp.pv_eq, Ask.pv_eq, pf_18, f25, pf_8, f28, *, decide_true, decide_false, Decidable.not_not, not_false_eq_true, not_true_eq_false])
        all_goals (first | (simp only [BOOLS]; done) | (simp [*]; done) | ((try simp only [CLOS, beq_iff_eq, bne_iff_ne, ne_eq] at *) <;> omega) | (simp_all; done) | (simp_all <;> omega))
      refine AW.ret ?_
      cases h
      show finish _ _ _ _ _ = _
      first | rfl | (simp [finish, resOf, renArgs, toPV, selObjs, sl])
    · replace h := bif_f hb22 h
      refine AW.skip ?_
      refine AW.seq ?_
      replace h := Option.bind_eq_some_iff.1 h; obtain ⟨⟨r29, r30⟩, q31, h⟩ := h
      dsimp only at h
      have f32 := c_F19 r18 o2.group_ o2.name_ r29 r30 q31
      try dsimp only at f32
      refine AW.reg hS [(0, .pv (.slice (List.map GEnv.pv l1))), (4, .ref 0 0), (5, .ref 1 0), (7, .pv (.slice (List.map GEnv.pv r18))), (9, .pv (.slice (List.map PV.str r29))), (10, .pv (.bool r30))] [.var [.pv (.int .i64 o2.kind_), .pv (.int .i64 o2.group_), .pv (.int .i64 o2.to_), .pv (.int .i64 o2.id_), .pv (.str o2.name_), .pv (.slice (List.map PV.str o2.values_)), .pv (.int .i64 o2.offset_), .pv (.str o2.data_)], .var [.pv (.int .i64 x3.group_), .pv (.int .i64 x3.id_), .pv (.str x3.name_), .pv (.int .i64 x3.offset_), .pv (.int .i64 x3.count_)]] ?_ ?_
      · simp -implicitDefEqProofs only [RUNS, qindex, Nat.reduceAdd, Nat.reduceLeDiff, Nat.reduceSub, reduceIte, Nat.reduceEqDiff, Nat.reduceLT, reduceCtorEq, Nat.reduceMul, Nat.reduceBEq, Int.reduceEq, if_true, if_false, eq_self, ne_eq, env_bT, T_3, T_9, T_32, T_34, T_74, P22_eq, Var.pv_eq, P72_eq, GEnv.pv_eq, GOp.pv_eq, Ask.pv_eq, pf_19, f32]
      refine AW.seq ?_
      refine AW.seq ?_
      replace h := Option.bind_eq_some_iff.1 h; obtain ⟨r33, q34, h⟩ := h
      have f35 := fun hg => c_F13 r29 o2.values_ r33 (guardO_t q34 hg)
      try dsimp only at f35
      refine AW.reg hS [(0, .pv (.slice (List.map GEnv.pv l1))), (4, .ref 0 0), (5, .ref 1 0), (7, .pv (.slice (List.map GEnv.pv r18))), (75, .pv (.bool (!(r30 == (decide (0 < (o2.values_.length : Int)))) || !r33)))] [.var [.pv (.int .i64 o2.kind_), .pv (.int .i64 o2.group_), .pv (.int .i64 o2.to_), .pv (.int .i64 o2.id_), .pv (.str o2.name_), .pv (.slice (List.map PV.str o2.values_)), .pv (.int .i64 o2.offset_), .pv (.str o2.data_)], .var [.pv (.int .i64 x3.group_), .pv (.int .i64 x3.id_), .pv (.str x3.name_), .pv (.int .i64 x3.offset_), .pv (.int .i64 x3.count_)]] ?_ ?_
      · clear h
        (simp -implicitDefEqProofs only [RUNS, qindex, Nat.reduceAdd, Nat.reduceLeDiff, Nat.reduceSub, reduceIte, Nat.reduceEqDiff, Nat.reduceLT, reduceCtorEq, Nat.reduceMul, Nat.reduceBEq, Int.reduceEq, if_true, if_false, eq_self, ne_eq, env_bT, T_3, T_4, T_9, T_22, T_34, P22_eq, Var.pv_eq, P72_eq, GEnv.pv_eq, GOp.pv_eq, Ask.pv_eq, eqT_3, eqT_4, isBoolT_4, pf_13, f35]); repeat' (split <;> rename_i hb <;> (try simp only [HBS, ge_iff_le, gt_iff_lt] at hb) <;> simp -implicitDefEqProofs only [RUNS, qindex, Nat.reduceAdd, Nat.reduceLeDiff, Nat.reduceSub, reduceIte, Nat.reduceEqDiff, Nat.reduceLT, reduceCtorEq, Nat.reduceMul, Nat.reduceBEq, Int.reduceEq, if_true, if_false, eq_self, ne_eq, env_bT, T_3, T_4, T_9, T_22, T_34, P22_eq, Var.pv_eq, P72_eq, GEnv.pv_eq, GOp.pv_eq, Ask.pv_eq, eqT_3, eqT_4, isBoolT_4, pf_13, f35, *, decide_true, decide_false, Decidable.not_not, not_false_eq_true, not_true_eq_false])
        all_goals (first | (simp only [BOOLS]; done) | (simp [*]; done) | ((try simp only [CLOS, beq_iff_eq, bne_iff_ne, ne_eq] at *) <;> omega) | (simp_all; done) | (simp_all <;> omega))
      refine AW.cond (b := (!(r30 == (decide (0 < (o2.values_.length : Int)))) || !r33)) rfl (fun hb36 => ?_) (fun hb36 => ?_)
      · replace h := bif_t hb36 h
        refine AW.seq ?_
        refine AW.reg hS [(6, .pv (.bool false))] [.var [.pv (.int .i64 o2.kind_), .pv (.int .i64 o2.group_), .pv (.int .i64 o2.to_), .pv (.int .i64 o2.id_), .pv (.str o2.name_), .pv (.slice (List.map PV.str o2.values_)), .pv (.int .i64 o2.offset_), .pv (.str o2.data_)], .var [.pv (.int .i64 x3.group_), .pv (.int .i64 x3.id_), .pv (.str x3.name_), .pv (.int .i64 x3.offset_), .pv (.int .i64 x3.count_)]] ?_ ?_
        · simp -implicitDefEqProofs only [RUNS, qindex, Nat.reduceAdd, Nat.reduceLeDiff, Nat.reduceSub, reduceIte, Nat.reduceEqDiff, Nat.reduceLT, reduceCtorEq, Nat.reduceMul, Nat.reduceBEq, Int.reduceEq, if_true, if_false, eq_self, ne_eq, env_bT, P22_eq, Var.pv_eq, P72_eq, GEnv.pv_eq, GOp.pv_eq, Ask.pv_eq]
        refine AW.ret ?_
        cases h
        show finish _ _ _ _ _ = _
        first | rfl | (simp [finish, resOf, renArgs, toPV, selObjs, sl])
      · replace h := bif_f hb36 h
        refine AW.skip ?_
        refine AW.seq ?_
        refine AW.seq ?_
        refine AW.reg hS [(0, .pv (.slice (List.map GEnv.pv l1))), (5, .ref 1 0), (7, .pv (.slice (List.map GEnv.pv r18))), (87, .pv (.bool (decide (x3.group_ = o2.group_) && decide (x3.name_ = o2.name_))))] [.var [.pv (.int .i64 o2.kind_), .pv (.int .i64 o2.group_), .pv (.int .i64 o2.to_), .pv (.int .i64 o2.id_), .pv (.str o2.name_), .pv (.slice (List.map PV.str o2.values_)), .pv (.int .i64 o2.offset_), .pv (.str o2.data_)], .var [.pv (.int .i64 x3.group_), .pv (.int .i64 x3.id_), .pv (.str x3.name_), .pv (.int .i64 x3.offset_), .pv (.int .i64 x3.count_)]] ?_ ?_
        · clear h
          (simp -implicitDefEqProofs only [RUNS, qindex, Nat.reduceAdd, Nat.reduceLeDiff, Nat.reduceSub, reduceIte, Nat.reduceEqDiff, Nat.reduceLT, reduceCtorEq, Nat.reduceMul, Nat.reduceBEq, Int.reduceEq, if_true, if_false, eq_self, ne_eq, env_bT, T_3, T_9, T_34, T_36, P22_eq, Var.pv_eq, P72_eq, GEnv.pv_eq, GOp.pv_eq, Ask.pv_eq, eqT_3, eqT_9]); repeat' (split <;> rename_i hb <;> (try simp only [HBS, ge_iff_le, gt_iff_lt] at hb) <;> simp -implicitDefEqProofs only [RUNS, qindex, Nat.reduceAdd, Nat.reduceLeDiff, Nat.reduceSub, reduceIte, Nat.reduceEqDiff, Nat.reduceLT, reduceCtorEq, Nat.reduceMul, Nat.reduceBEq, Int.reduceEq, if_true, if_false, eq_self, ne_eq, env_bT, T_3, T_9, T_34, T_36, P22_eq, Var.pv_eq, P72_eq, GEnv.pv_eq, GOp.pv_eq, Ask.pv_eq, eqT_3, eqT_9, *, decide_true, decide_false, Decidable.not_not, not_false_eq_true, not_true_eq_false])
          all_goals (first | (simp only [BOOLS]; done) | (simp [*]; done) | ((try simp only [CLOS, beq_iff_eq, bne_iff_ne, ne_eq] at *) <;> omega) | (simp_all; done) | (simp_all <;> omega))
        refine AW.cond (b := (decide (x3.group_ = o2.group_) && decide (x3.name_ = o2.name_))) rfl (fun hb37 => ?_) (fun hb37 => ?_)
        · replace h := bif_t hb37 h
          refine AW.seq ?_
          replace h := Option.bind_eq_some_iff.1 h; obtain ⟨r38, q39, h⟩ := h
          have f40 := c_F8 r38 q39
          try dsimp only at f40
          refine AW.reg hS [(6, .pv (.bool r38))] [.var [.pv (.int .i64 o2.kind_), .pv (.int .i64 o2.group_), .pv (.int .i64 o2.to_), .pv (.int .i64 o2.id_), .pv (.str o2.name_), .pv (.slice (List.map PV.str o2.values_)), .pv (.int .i64 o2.offset_), .pv (.str o2.data_)], .var [.pv (.int .i64 x3.group_), .pv (.int .i64 x3.id_), .pv (.str x3.name_), .pv (.int .i64 x3.offset_), .pv (.int .i64 x3.count_)]] ?_ ?_
          · simp -implicitDefEqProofs only [RUNS, qindex, Nat.reduceAdd, Nat.reduceLeDiff, Nat.reduceSub, reduceIte, Nat.reduceEqDiff, Nat.reduceLT, reduceCtorEq, Nat.reduceMul, Nat.reduceBEq, Int.reduceEq, if_true, if_false, eq_self, ne_eq, env_bT, P22_eq, Var.pv_eq, P72_eq, GEnv.pv_eq, GOp.pv_eq, Ask.pv_eq, pf_8, f40]
          refine AW.ret ?_
          cases h
          show finish _ _ _ _ _ = _
          first | rfl | (simp [finish, resOf, renArgs, toPV, selObjs, sl])
        · replace h := bif_f hb37 h
          refine AW.skip ?_
          refine AW.seq ?_
          replace h := Option.bind_eq_some_iff.1 h; obtain ⟨⟨r41, r42⟩, q43, h⟩ := h
          dsimp only at h
          have f44 := c_F19 l1 x3.group_ x3.name_ r41 r42 q43
          try dsimp only at f44
          refine AW.reg hS [(5, .ref 1 0), (7, .pv (.slice (List.map GEnv.pv r18))), (11, .pv (.slice (List.map PV.str r41))), (12, .pv (.bool r42))] [.var [.pv (.int .i64 o2.kind_), .pv (.int .i64 o2.group_), .pv (.int .i64 o2.to_), .pv (.int .i64 o2.id_), .pv (.str o2.name_), .pv (.slice (List.map PV.str o2.values_)), .pv (.int .i64 o2.offset_), .pv (.str o2.data_)], .var [.pv (.int .i64 x3.group_), .pv (.int .i64 x3.id_), .pv (.str x3.name_), .pv (.int .i64 x3.offset_), .pv (.int .i64 x3.count_)]] ?_ ?_
          · simp -implicitDefEqProofs only [RUNS, qindex, Nat.reduceAdd, Nat.reduceLeDiff, Nat.reduceSub, reduceIte, Nat.reduceEqDiff, Nat.reduceLT, reduceCtorEq, Nat.reduceMul, Nat.reduceBEq, Int.reduceEq, if_true, if_false, eq_self, ne_eq, env_bT, T_3, T_9, T_32, T_36, T_74, P22_eq, Var.pv_eq, P72_eq, GEnv.pv_eq, GOp.pv_eq, Ask.pv_eq, pf_19, f44]
          refine AW.seq ?_
          replace h := Option.bind_eq_some_iff.1 h; obtain ⟨⟨r45, r46⟩, q47, h⟩ := h
          dsimp only at h
          have f48 := c_F19 r18 x3.group_ x3.name_ r45 r46 q47
          try dsimp only at f48
          refine AW.reg hS [(11, .pv (.slice (List.map PV.str r41))), (12, .pv (.bool r42)), (13, .pv (.slice (List.map PV.str r45))), (14, .pv (.bool r46))] [.var [.pv (.int .i64 o2.kind_), .pv (.int .i64 o2.group_), .pv (.int .i64 o2.to_), .pv (.int .i64 o2.id_), .pv (.str o2.name_), .pv (.slice (List.map PV.str o2.values_)), .pv (.int .i64 o2.offset_), .pv (.str o2.data_)], .var [.pv (.int .i64 x3.group_), .pv (.int .i64 x3.id_), .pv (.str x3.name_), .pv (.int .i64 x3.offset_), .pv (.int .i64 x3.count_)]] ?_ ?_
          · simp -implicitDefEqProofs only [RUNS, qindex, Nat.reduceAdd, Nat.reduceLeDiff, Nat.reduceSub, reduceIte, Nat.reduceEqDiff, Nat.reduceLT, reduceCtorEq, Nat.reduceMul, Nat.reduceBEq, Int.reduceEq, if_true, if_false, eq_self, ne_eq, env_bT, T_3, T_9, T_32, T_36, T_74, P22_eq, Var.pv_eq, P72_eq, GEnv.pv_eq, GOp.pv_eq, Ask.pv_eq, pf_19, f48]
          refine AW.seq ?_
          replace h := Option.bind_eq_some_iff.1 h; obtain ⟨r49, q50, h⟩ := h
          have f51 := fun hg => c_F13 r41 r45 r49 (guardO_t q50 hg)
          try dsimp only at f51
          replace h := Option.bind_eq_some_iff.1 h; obtain ⟨r52, q53, h⟩ := h
          have f54 := fun hg => c_F8 r52 (guardO_t q53 hg)
          try dsimp only at f54
          refine AW.reg hS [(6, .pv (.bool (((r42 == r46) && r49) && r52)))] [.var [.pv (.int .i64 o2.kind_), .pv (.int .i64 o2.group_), .pv (.int .i64 o2.to_), .pv (.int .i64 o2.id_), .pv (.str o2.name_), .pv (.slice (List.map PV.str o2.values_)), .pv (.int .i64 o2.offset_), .pv (.str o2.data_)], .var [.pv (.int .i64 x3.group_), .pv (.int .i64 x3.id_), .pv (.str x3.name_), .pv (.int .i64 x3.offset_), .pv (.int .i64 x3.count_)]] ?_ ?_
          · clear h
            (simp -implicitDefEqProofs only [RUNS, qindex, Nat.reduceAdd, Nat.reduceLeDiff, Nat.reduceSub, reduceIte, Nat.reduceEqDiff, Nat.reduceLT, reduceCtorEq, Nat.reduceMul, Nat.reduceBEq, Int.reduceEq, if_true, if_false, eq_self, ne_eq, env_bT, T_4, T_9, T_22, P22_eq, Var.pv_eq, P72_eq, GEnv.pv_eq, GOp.pv_eq, Ask.pv_eq, eqT_4, isBoolT_4, pf_13, f51, pf_8, f54]); repeat' (split <;> rename_i hb <;> (try simp only [HBS, ge_iff_le, gt_iff_lt] at hb) <;> simp -implicitDefEqProofs only [RUNS, qindex, Nat.reduceAdd, Nat.reduceLeDiff, Nat.reduceSub, reduceIte, Nat.reduceEqDiff, Nat.reduceLT, reduceCtorEq, Nat.reduceMul, Nat.reduceBEq, Int.reduceEq, if_true, if_false, eq_self, ne_eq, env_bT, T_4, T_9, T_22, P22_eq, Var.pv_eq, P72_eq, GEnv.pv_eq, GOp.pv_eq, Ask.pv_eq, eqT_4, isBoolT_4, pf_13, f51, pf_8, f54, *, decide_true, decide_false, Decidable.not_not, not_false_eq_true, not_true_eq_false])
            all_goals (first | (simp only [BOOLS]; done) | (simp [*]; done) | ((try simp only [CLOS, beq_iff_eq, bne_iff_ne, ne_eq] at *) <;> omega) | (simp_all; done) | (simp_all <;> omega))
          refine AW.ret ?_
          cases h
          show finish _ _ _ _ _ = _
          first | rfl | (simp [finish, resOf, renArgs, toPV, selObjs, sl])

end Go.Abs.U29
