/- The layer 50 laws: the functions walked. -/
import Derived.Test.YthoacjgjmlgaoaaGreatDoorD1
set_option linter.unusedVariables false
set_option linter.unusedSimpArgs false
set_option maxRecDepth 8000
namespace Go.Abs.U5Z
open Go.RowKit Go.Proofs

set_option maxHeartbeats 4000000 in
theorem g_F8 {O : Orc} (hS : Sound env O) (hpf : O.pf = pfn) (c_F29 : C_F29 O) (c_F30 : C_F30 O) (env1 : List GEnv) (group2 : Int) (s3 : Str) (r4 : Str) (r5 : Int) (h : F8 env1 group2 s3 = some (r4, r5)) : Good env 8 [.pv (.slice (List.map GEnv.pv env1)), .pv (.int .i64 group2), .pv (.str s3)] [] [.pv (.str r4), .pv (.int .i64 r5)] [] := by
  have pf_29 : O.pf 29 = true := by rw [hpf]; rfl
  have pf_30 : O.pf 30 = true := by rw [hpf]; rfl
  refine Good.start (fn := Tryz.f8) (N := 115) fn_8 rfl rfl (by simp) [] _ rfl rfl ?_
  rw [F8] at h
  refine AW.seq ?_
  refine AW.reg hS [(0, .pv (.slice (List.map GEnv.pv env1))), (1, .pv (.int .i64 group2)), (2, .pv (.str s3))] [] ?_ ?_
  · simp -implicitDefEqProofs only [RUNS, qindex, Nat.reduceAdd, Nat.reduceLeDiff, Nat.reduceSub, reduceIte, Nat.reduceEqDiff, Nat.reduceLT, reduceCtorEq, Nat.reduceMul, Nat.reduceBEq, Int.reduceEq, if_true, if_false, eq_self, ne_eq, env_bT, P29_eq, Var.pv_eq, P32_eq, GEnv.pv_eq, P41_eq, Redir.pv_eq, P152_eq, Cmd.pv_eq, P42_eq, Word.pv_eq, GValue.pv_eq]
  refine AW.seq ?_
  refine AW.reg hS [(0, .pv (.slice (List.map GEnv.pv env1))), (1, .pv (.int .i64 group2)), (2, .pv (.str s3)), (8, .pv (.str []))] [] ?_ ?_
  · simp -implicitDefEqProofs only [RUNS, qindex, Nat.reduceAdd, Nat.reduceLeDiff, Nat.reduceSub, reduceIte, Nat.reduceEqDiff, Nat.reduceLT, reduceCtorEq, Nat.reduceMul, Nat.reduceBEq, Int.reduceEq, if_true, if_false, eq_self, ne_eq, env_bT, P29_eq, Var.pv_eq, P32_eq, GEnv.pv_eq, P41_eq, Redir.pv_eq, P152_eq, Cmd.pv_eq, P42_eq, Word.pv_eq, GValue.pv_eq]
  refine AW.seq ?_
  refine AW.reg hS [(0, .pv (.slice (List.map GEnv.pv env1))), (1, .pv (.int .i64 group2)), (2, .pv (.str s3)), (8, .pv (.str [])), (9, .pv (.int .i64 0))] [] ?_ ?_
  · simp -implicitDefEqProofs only [RUNS, qindex, Nat.reduceAdd, Nat.reduceLeDiff, Nat.reduceSub, reduceIte, Nat.reduceEqDiff, Nat.reduceLT, reduceCtorEq, Nat.reduceMul, Nat.reduceBEq, Int.reduceEq, if_true, if_false, eq_self, ne_eq, env_bT, P29_eq, Var.pv_eq, P32_eq, GEnv.pv_eq, P41_eq, Redir.pv_eq, P152_eq, Cmd.pv_eq, P42_eq, Word.pv_eq, GValue.pv_eq]
  refine AW.seq ?_
  refine AW.block ?_
  refine AW.weak (Weak.slots (L := [(0, .pv (.slice (List.map GEnv.pv env1))), (1, .pv (.int .i64 group2)), (2, .pv (.str s3)), (8, .pv (.str [])), (9, .pv (.int .i64 0))]) ⟨rfl, rfl, rfl, rfl, rfl, trivial⟩) ?_
  refine AW.loopI (α := Nat × Str × Int) (fun (_, out6, i7) => ⟨sl [(0, .pv (.slice (List.map GEnv.pv env1))), (1, .pv (.int .i64 group2)), (2, .pv (.str s3)), (8, .pv (.str out6)), (9, .pv (.int .i64 i7))], 115, []⟩) (fun x => iter (F8_b3 s3 env1 group2) x.1 x.2 = some (r4, r5)) (fun x => x.1) (BIG, ([], 0)) h ?_
  clear h
  intro ⟨n72, out6, i7⟩ h
  replace h := iter_some h; obtain ⟨m10, rfl, h⟩ := h
  rw [F8_b3] at h
  try dsimp only at h
  show AW _ _ _ _ ⟨sl [(0, .pv (.slice (List.map GEnv.pv env1))), (1, .pv (.int .i64 group2)), (2, .pv (.str s3)), (8, .pv (.str out6)), (9, .pv (.int .i64 i7))], 115, []⟩
  refine AW.seq ?_
  refine AW.seq ?_
  refine AW.reg hS [(0, .pv (.slice (List.map GEnv.pv env1))), (1, .pv (.int .i64 group2)), (2, .pv (.str s3)), (8, .pv (.str out6)), (9, .pv (.int .i64 i7)), (21, .pv (.bool (decide (i7 < (s3.length : Int)) && decide ((out6.length : Int) ≤ 65536))))] [] ?_ ?_
  · clear h
    (simp -implicitDefEqProofs only [RUNS, qindex, Nat.reduceAdd, Nat.reduceLeDiff, Nat.reduceSub, reduceIte, Nat.reduceEqDiff, Nat.reduceLT, reduceCtorEq, Nat.reduceMul, Nat.reduceBEq, Int.reduceEq, if_true, if_false, eq_self, ne_eq, env_bT, T_3, T_9, P29_eq, Var.pv_eq, P32_eq, GEnv.pv_eq, P41_eq, Redir.pv_eq, P152_eq, Cmd.pv_eq, P42_eq, Word.pv_eq, GValue.pv_eq, eqT_3]); repeat' (split <;> rename_i hb <;> (try simp only [HBS, ge_iff_le, gt_iff_lt] at hb) <;> simp -implicitDefEqProofs only [RUNS, qindex, Nat.reduceAdd, Nat.reduceLeDiff, Nat.reduceSub, reduceIte, Nat.reduceEqDiff, Nat.reduceLT, reduceCtorEq, Nat.reduceMul, Nat.reduceBEq, Int.reduceEq, if_true, if_false, eq_self, ne_eq, env_bT, T_3, T_9, P29_eq, Var.pv_eq, P32_eq, GEnv.pv_eq, P41_eq, Redir.pv_eq, P152_eq, Cmd.pv_eq, P42_eq, Word.pv_eq, GValue.pv_eq, eqT_3, *, decide_true, decide_false, Decidable.not_not, not_false_eq_true, not_true_eq_false])
    all_goals (first | (simp only [BOOLS]; done) | (simp [*]; done) | ((try simp only [CLOS, beq_iff_eq, bne_iff_ne, ne_eq] at *) <;> omega) | (simp_all; done) | (simp_all <;> omega))
  refine AW.cond (b := (decide (i7 < (s3.length : Int)) && decide ((out6.length : Int) ≤ 65536))) rfl (fun hb11 => ?_) (fun hb11 => ?_)
  · replace h := bif_t hb11 h
    refine AW.skip ?_
    refine AW.block ?_
    refine AW.seq ?_
    refine AW.reg hS [(0, .pv (.slice (List.map GEnv.pv env1))), (1, .pv (.int .i64 group2)), (2, .pv (.str s3)), (8, .pv (.str out6)), (9, .pv (.int .i64 i7)), (10, .pv (.int .i64 (IntKind.wrap .i64 (i7 + 1))))] [] ?_ ?_
    · simp -implicitDefEqProofs only [RUNS, qindex, Nat.reduceAdd, Nat.reduceLeDiff, Nat.reduceSub, reduceIte, Nat.reduceEqDiff, Nat.reduceLT, reduceCtorEq, Nat.reduceMul, Nat.reduceBEq, Int.reduceEq, if_true, if_false, eq_self, ne_eq, env_bT, T_3, P29_eq, Var.pv_eq, P32_eq, GEnv.pv_eq, P41_eq, Redir.pv_eq, P152_eq, Cmd.pv_eq, P42_eq, Word.pv_eq, GValue.pv_eq, eqT_3]
    refine AW.seq ?_
    refine AW.block ?_
    refine AW.weak (Weak.slots (L := [(0, .pv (.slice (List.map GEnv.pv env1))), (1, .pv (.int .i64 group2)), (2, .pv (.str s3)), (8, .pv (.str out6)), (9, .pv (.int .i64 i7)), (10, .pv (.int .i64 (IntKind.wrap .i64 (i7 + 1))))]) ⟨rfl, rfl, rfl, rfl, rfl, rfl, trivial⟩) ?_
    refine AW.loopI (α := Nat × Int) (fun (_, to12) => ⟨sl [(0, .pv (.slice (List.map GEnv.pv env1))), (1, .pv (.int .i64 group2)), (2, .pv (.str s3)), (8, .pv (.str out6)), (9, .pv (.int .i64 i7)), (10, .pv (.int .i64 to12))], 115, []⟩) (fun x => iter (F8_b4 s3 i7 env1 group2 (iter (F8_b3 s3 env1 group2) m10) out6) x.1 x.2 = some (r4, r5)) (fun x => x.1) (BIG, IntKind.wrap .i64 (i7 + 1)) h ?_
    clear h
    intro ⟨n70, to12⟩ h
    replace h := iter_some h; obtain ⟨m15, rfl, h⟩ := h
    rw [F8_b4] at h
    try dsimp only at h
    show AW _ _ _ _ ⟨sl [(0, .pv (.slice (List.map GEnv.pv env1))), (1, .pv (.int .i64 group2)), (2, .pv (.str s3)), (8, .pv (.str out6)), (9, .pv (.int .i64 i7)), (10, .pv (.int .i64 to12))], 115, []⟩
    refine AW.seq ?_
    refine AW.seq ?_
    replace h := Option.bind_eq_some_iff.1 h; obtain ⟨c16, q17, h⟩ := h
    have f18 := sidx_f q17
    replace h := Option.bind_eq_some_iff.1 h; obtain ⟨c19, q20, h⟩ := h
    have f21 := sidx_g (guardO_t q20)
    replace h := Option.bind_eq_some_iff.1 h; obtain ⟨r22, q23, h⟩ := h
    have f24 := fun hg => c_F29 c19 r22 (guardO_t q23 hg)
    try dsimp only at f24
    refine AW.reg hS [(0, .pv (.slice (List.map GEnv.pv env1))), (1, .pv (.int .i64 group2)), (2, .pv (.str s3)), (8, .pv (.str out6)), (9, .pv (.int .i64 i7)), (10, .pv (.int .i64 to12)), (39, .pv (.bool ((decide (c16 = 36) && decide (to12 < (s3.length : Int))) && r22)))] [] ?_ ?_
    · clear h
      (simp -implicitDefEqProofs only [RUNS, qindex, Nat.reduceAdd, Nat.reduceLeDiff, Nat.reduceSub, reduceIte, Nat.reduceEqDiff, Nat.reduceLT, reduceCtorEq, Nat.reduceMul, Nat.reduceBEq, Int.reduceEq, if_true, if_false, eq_self, ne_eq, env_bT, T_3, T_5, T_9, P29_eq, Var.pv_eq, P32_eq, GEnv.pv_eq, P41_eq, Redir.pv_eq, P152_eq, Cmd.pv_eq, P42_eq, Word.pv_eq, GValue.pv_eq, f18.1, f18.2.1, f18.2.2, eqT_5, eqT_3, f21.1, f21.2.1, f21.2.2, pf_29, f24]); repeat' (split <;> rename_i hb <;> (try simp only [HBS, ge_iff_le, gt_iff_lt] at hb) <;> simp -implicitDefEqProofs only [RUNS, qindex, Nat.reduceAdd, Nat.reduceLeDiff, Nat.reduceSub, reduceIte, Nat.reduceEqDiff, Nat.reduceLT, reduceCtorEq, Nat.reduceMul, Nat.reduceBEq, Int.reduceEq, if_true, if_false, eq_self, ne_eq, env_bT, T_3, T_5, T_9, P29_eq, Var.pv_eq, P32_eq, GEnv.pv_eq, P41_eq, Redir.pv_eq, P152_eq, Cmd.pv_eq, P42_eq, Word.pv_eq, GValue.pv_eq, f18.1, f18.2.1, f18.2.2, eqT_5, eqT_3, f21.1, f21.2.1, f21.2.2, pf_29, f24, *, decide_true, decide_false, Decidable.not_not, not_false_eq_true, not_true_eq_false])
      all_goals (first | (simp only [BOOLS]; done) | (simp [*]; done) | ((try simp only [CLOS, beq_iff_eq, bne_iff_ne, ne_eq] at *) <;> omega) | (simp_all; done) | (simp_all <;> omega))
    refine AW.cond (b := ((decide (c16 = 36) && decide (to12 < (s3.length : Int))) && r22)) rfl (fun hb25 => ?_) (fun hb25 => ?_)
    · replace h := bif_t hb25 h
      refine AW.skip ?_
      refine AW.block ?_
      refine AW.reg hS [(0, .pv (.slice (List.map GEnv.pv env1))), (1, .pv (.int .i64 group2)), (2, .pv (.str s3)), (8, .pv (.str out6)), (9, .pv (.int .i64 i7)), (10, .pv (.int .i64 (IntKind.wrap .i64 (to12 + 1))))] [] ?_ ?_
      · simp -implicitDefEqProofs only [RUNS, qindex, Nat.reduceAdd, Nat.reduceLeDiff, Nat.reduceSub, reduceIte, Nat.reduceEqDiff, Nat.reduceLT, reduceCtorEq, Nat.reduceMul, Nat.reduceBEq, Int.reduceEq, if_true, if_false, eq_self, ne_eq, env_bT, T_3, P29_eq, Var.pv_eq, P32_eq, GEnv.pv_eq, P41_eq, Redir.pv_eq, P152_eq, Cmd.pv_eq, P42_eq, Word.pv_eq, GValue.pv_eq, eqT_3]
      exact ⟨(m15, IntKind.wrap .i64 (to12 + 1)), h, (Weak.norm (m := 0) (Nat.le_of_ble_eq_true rfl) ⟨rfl, rfl, rfl, rfl, rfl, rfl, trivial⟩ rfl rfl rfl), Nat.lt_succ_self _⟩
    · replace h := bif_f hb25 h
      refine AW.exit ?_
      refine AW.seq ?_
      refine AW.block ?_
      refine AW.seq ?_
      refine AW.reg hS [(0, .pv (.slice (List.map GEnv.pv env1))), (1, .pv (.int .i64 group2)), (2, .pv (.str s3)), (8, .pv (.str out6)), (9, .pv (.int .i64 i7)), (10, .pv (.int .i64 to12)), (48, .pv (.bool (decide (IntKind.wrap .i64 (i7 + 1) < to12))))] [] ?_ ?_
      · simp -implicitDefEqProofs only [RUNS, qindex, Nat.reduceAdd, Nat.reduceLeDiff, Nat.reduceSub, reduceIte, Nat.reduceEqDiff, Nat.reduceLT, reduceCtorEq, Nat.reduceMul, Nat.reduceBEq, Int.reduceEq, if_true, if_false, eq_self, ne_eq, env_bT, T_3, P29_eq, Var.pv_eq, P32_eq, GEnv.pv_eq, P41_eq, Redir.pv_eq, P152_eq, Cmd.pv_eq, P42_eq, Word.pv_eq, GValue.pv_eq, eqT_3]
      refine AW.cond (b := decide (IntKind.wrap .i64 (i7 + 1) < to12)) rfl (fun hb26 => ?_) (fun hb26 => ?_)
      · replace h := bif_t hb26 h
        refine AW.seq ?_
        replace h := Option.bind_eq_some_iff.1 h; obtain ⟨t27, q28, h⟩ := h
        have f29 := sslice_f q28
        have f29e := f29.2.2.2.2
        try simp only [Int.toNat_natCast, Int.toNat_zero, List.drop_zero] at f29e
        have f29l := f29.2.2.1
        try simp only [Int.toNat_natCast, Int.toNat_zero] at f29l
        replace h := Option.bind_eq_some_iff.1 h; obtain ⟨r30, q31, h⟩ := h
        have f32 := c_F30 env1 group2 t27 r30 q31
        try dsimp only at f32
        refine AW.reg hS [(0, .pv (.slice (List.map GEnv.pv env1))), (1, .pv (.int .i64 group2)), (2, .pv (.str s3)), (8, .pv (.str out6)), (10, .pv (.int .i64 to12)), (11, .pv (.slice (List.map PV.str r30)))] [] ?_ ?_
        · simp -implicitDefEqProofs only [RUNS, qindex, Nat.reduceAdd, Nat.reduceLeDiff, Nat.reduceSub, reduceIte, Nat.reduceEqDiff, Nat.reduceLT, reduceCtorEq, Nat.reduceMul, Nat.reduceBEq, Int.reduceEq, if_true, if_false, eq_self, ne_eq, env_bT, T_3, T_9, T_22, T_34, P29_eq, Var.pv_eq, P32_eq, GEnv.pv_eq, P41_eq, Redir.pv_eq, P152_eq, Cmd.pv_eq, P42_eq, Word.pv_eq, GValue.pv_eq, eqT_3, f29.1, f29.2.1, f29l, f29.2.2.2.1, f29e, Int.toNat_natCast, Int.toNat_zero, pf_30, f32]
        refine AW.seq ?_
        refine AW.seq ?_
        refine AW.reg hS [(0, .pv (.slice (List.map GEnv.pv env1))), (1, .pv (.int .i64 group2)), (2, .pv (.str s3)), (8, .pv (.str out6)), (10, .pv (.int .i64 to12)), (11, .pv (.slice (List.map PV.str r30))), (12, .pv (.int .i64 0))] [] ?_ ?_
        · simp -implicitDefEqProofs only [RUNS, qindex, Nat.reduceAdd, Nat.reduceLeDiff, Nat.reduceSub, reduceIte, Nat.reduceEqDiff, Nat.reduceLT, reduceCtorEq, Nat.reduceMul, Nat.reduceBEq, Int.reduceEq, if_true, if_false, eq_self, ne_eq, env_bT, P29_eq, Var.pv_eq, P32_eq, GEnv.pv_eq, P41_eq, Redir.pv_eq, P152_eq, Cmd.pv_eq, P42_eq, Word.pv_eq, GValue.pv_eq]
        refine AW.block ?_
        refine AW.weak (Weak.slots (L := [(0, .pv (.slice (List.map GEnv.pv env1))), (1, .pv (.int .i64 group2)), (2, .pv (.str s3)), (8, .pv (.str out6)), (10, .pv (.int .i64 to12)), (11, .pv (.slice (List.map PV.str r30))), (12, .pv (.int .i64 0))]) ⟨rfl, rfl, rfl, rfl, rfl, rfl, rfl, trivial⟩) ?_
        refine AW.loopI (α := Nat × Str × Int) (fun (_, out33, k34) => ⟨sl [(0, .pv (.slice (List.map GEnv.pv env1))), (1, .pv (.int .i64 group2)), (2, .pv (.str s3)), (8, .pv (.str out33)), (10, .pv (.int .i64 to12)), (11, .pv (.slice (List.map PV.str r30))), (12, .pv (.int .i64 k34))], 115, []⟩) (fun x => iter (F8_b5 r30 to12 s3 (iter (F8_b3 s3 env1 group2) m10)) x.1 x.2 = some (r4, r5)) (fun x => x.1) (BIG, (out6, 0)) h ?_
        clear h
        intro ⟨n59, out33, k34⟩ h
        replace h := iter_some h; obtain ⟨m37, rfl, h⟩ := h
        rw [F8_b5] at h
        try dsimp only at h
        show AW _ _ _ _ ⟨sl [(0, .pv (.slice (List.map GEnv.pv env1))), (1, .pv (.int .i64 group2)), (2, .pv (.str s3)), (8, .pv (.str out33)), (10, .pv (.int .i64 to12)), (11, .pv (.slice (List.map PV.str r30))), (12, .pv (.int .i64 k34))], 115, []⟩
        refine AW.seq ?_
        refine AW.seq ?_
        refine AW.reg hS [(0, .pv (.slice (List.map GEnv.pv env1))), (1, .pv (.int .i64 group2)), (2, .pv (.str s3)), (8, .pv (.str out33)), (10, .pv (.int .i64 to12)), (11, .pv (.slice (List.map PV.str r30))), (12, .pv (.int .i64 k34)), (64, .pv (.bool (decide (k34 < (r30.length : Int)))))] [] ?_ ?_
        · simp -implicitDefEqProofs only [RUNS, qindex, Nat.reduceAdd, Nat.reduceLeDiff, Nat.reduceSub, reduceIte, Nat.reduceEqDiff, Nat.reduceLT, reduceCtorEq, Nat.reduceMul, Nat.reduceBEq, Int.reduceEq, if_true, if_false, eq_self, ne_eq, env_bT, T_3, T_9, T_29, P29_eq, Var.pv_eq, P32_eq, GEnv.pv_eq, P41_eq, Redir.pv_eq, P152_eq, Cmd.pv_eq, P42_eq, Word.pv_eq, GValue.pv_eq, eqT_3]
        refine AW.cond (b := decide (k34 < (r30.length : Int))) rfl (fun hb38 => ?_) (fun hb38 => ?_)
        · replace h := bif_t hb38 h
          refine AW.skip ?_
          refine AW.seq ?_
          refine AW.block ?_
          refine AW.seq ?_
          refine AW.seq ?_
          refine AW.reg hS [(0, .pv (.slice (List.map GEnv.pv env1))), (1, .pv (.int .i64 group2)), (2, .pv (.str s3)), (8, .pv (.str out33)), (10, .pv (.int .i64 to12)), (11, .pv (.slice (List.map PV.str r30))), (12, .pv (.int .i64 k34)), (68, .pv (.bool (decide (0 < k34))))] [] ?_ ?_
          · simp -implicitDefEqProofs only [RUNS, qindex, Nat.reduceAdd, Nat.reduceLeDiff, Nat.reduceSub, reduceIte, Nat.reduceEqDiff, Nat.reduceLT, reduceCtorEq, Nat.reduceMul, Nat.reduceBEq, Int.reduceEq, if_true, if_false, eq_self, ne_eq, env_bT, T_3, P29_eq, Var.pv_eq, P32_eq, GEnv.pv_eq, P41_eq, Redir.pv_eq, P152_eq, Cmd.pv_eq, P42_eq, Word.pv_eq, GValue.pv_eq, eqT_3]
          refine AW.cond (b := decide (0 < k34)) rfl (fun hb39 => ?_) (fun hb39 => ?_)
          · replace h := bif_t hb39 h
            replace h := Option.bind_eq_some_iff.1 h; obtain ⟨s40, q41, h⟩ := h
            have f42 := catO_f q41
            try simp only [List.length_cons, List.length_nil, Nat.zero_add, Nat.reduceAdd, Nat.reduceLeDiff, Nat.add_zero, Nat.reduceMul] at f42
            refine AW.reg hS [(0, .pv (.slice (List.map GEnv.pv env1))), (1, .pv (.int .i64 group2)), (2, .pv (.str s3)), (8, .pv (.str s40)), (10, .pv (.int .i64 to12)), (11, .pv (.slice (List.map PV.str r30))), (12, .pv (.int .i64 k34))] [] ?_ ?_
            · simp -implicitDefEqProofs only [RUNS, qindex, Nat.reduceAdd, Nat.reduceLeDiff, Nat.reduceSub, reduceIte, Nat.reduceEqDiff, Nat.reduceLT, reduceCtorEq, Nat.reduceMul, Nat.reduceBEq, Int.reduceEq, if_true, if_false, eq_self, ne_eq, env_bT, T_9, P29_eq, Var.pv_eq, P32_eq, GEnv.pv_eq, P41_eq, Redir.pv_eq, P152_eq, Cmd.pv_eq, P42_eq, Word.pv_eq, GValue.pv_eq, eqT_9, f42.1, f42.2]
            replace h := Option.bind_eq_some_iff.1 h; obtain ⟨w43, q44, h⟩ := h
            have f45 := lidx_f q44
            replace h := Option.bind_eq_some_iff.1 h; obtain ⟨s46, q47, h⟩ := h
            have f48 := catO_f q47
            try simp only [List.length_cons, List.length_nil, Nat.zero_add, Nat.reduceAdd, Nat.reduceLeDiff, Nat.add_zero, Nat.reduceMul] at f48
            refine AW.reg hS [(0, .pv (.slice (List.map GEnv.pv env1))), (1, .pv (.int .i64 group2)), (2, .pv (.str s3)), (8, .pv (.str s46)), (10, .pv (.int .i64 to12)), (11, .pv (.slice (List.map PV.str r30))), (12, .pv (.int .i64 k34))] [] ?_ ?_
            · simp -implicitDefEqProofs only [RUNS, qindex, Nat.reduceAdd, Nat.reduceLeDiff, Nat.reduceSub, reduceIte, Nat.reduceEqDiff, Nat.reduceLT, reduceCtorEq, Nat.reduceMul, Nat.reduceBEq, Int.reduceEq, if_true, if_false, eq_self, ne_eq, env_bT, T_9, T_29, P29_eq, Var.pv_eq, P32_eq, GEnv.pv_eq, P41_eq, Redir.pv_eq, P152_eq, Cmd.pv_eq, P42_eq, Word.pv_eq, GValue.pv_eq, f45.1, f45.2.1, eqT_9, f48.1, f48.2]
            refine AW.reg hS [(0, .pv (.slice (List.map GEnv.pv env1))), (1, .pv (.int .i64 group2)), (2, .pv (.str s3)), (8, .pv (.str s46)), (10, .pv (.int .i64 to12)), (11, .pv (.slice (List.map PV.str r30))), (12, .pv (.int .i64 (IntKind.wrap .i64 (k34 + 1))))] [] ?_ ?_
            · simp -implicitDefEqProofs only [RUNS, qindex, Nat.reduceAdd, Nat.reduceLeDiff, Nat.reduceSub, reduceIte, Nat.reduceEqDiff, Nat.reduceLT, reduceCtorEq, Nat.reduceMul, Nat.reduceBEq, Int.reduceEq, if_true, if_false, eq_self, ne_eq, env_bT, T_3, P29_eq, Var.pv_eq, P32_eq, GEnv.pv_eq, P41_eq, Redir.pv_eq, P152_eq, Cmd.pv_eq, P42_eq, Word.pv_eq, GValue.pv_eq, eqT_3]
            exact ⟨(m37, (s46, IntKind.wrap .i64 (k34 + 1))), h, (Weak.norm (m := 0) (Nat.le_of_ble_eq_true rfl) ⟨rfl, rfl, rfl, rfl, rfl, rfl, rfl, trivial⟩ rfl rfl rfl), Nat.lt_succ_self _⟩
          · replace h := bif_f hb39 h
            refine AW.skip ?_
            replace h := Option.bind_eq_some_iff.1 h; obtain ⟨w49, q50, h⟩ := h
            have f51 := lidx_f q50
            replace h := Option.bind_eq_some_iff.1 h; obtain ⟨s52, q53, h⟩ := h
            have f54 := catO_f q53
            try simp only [List.length_cons, List.length_nil, Nat.zero_add, Nat.reduceAdd, Nat.reduceLeDiff, Nat.add_zero, Nat.reduceMul] at f54
            refine AW.reg hS [(0, .pv (.slice (List.map GEnv.pv env1))), (1, .pv (.int .i64 group2)), (2, .pv (.str s3)), (8, .pv (.str s52)), (10, .pv (.int .i64 to12)), (11, .pv (.slice (List.map PV.str r30))), (12, .pv (.int .i64 k34))] [] ?_ ?_
            · simp -implicitDefEqProofs only [RUNS, qindex, Nat.reduceAdd, Nat.reduceLeDiff, Nat.reduceSub, reduceIte, Nat.reduceEqDiff, Nat.reduceLT, reduceCtorEq, Nat.reduceMul, Nat.reduceBEq, Int.reduceEq, if_true, if_false, eq_self, ne_eq, env_bT, T_9, T_29, P29_eq, Var.pv_eq, P32_eq, GEnv.pv_eq, P41_eq, Redir.pv_eq, P152_eq, Cmd.pv_eq, P42_eq, Word.pv_eq, GValue.pv_eq, f51.1, f51.2.1, eqT_9, f54.1, f54.2]
            refine AW.reg hS [(0, .pv (.slice (List.map GEnv.pv env1))), (1, .pv (.int .i64 group2)), (2, .pv (.str s3)), (8, .pv (.str s52)), (10, .pv (.int .i64 to12)), (11, .pv (.slice (List.map PV.str r30))), (12, .pv (.int .i64 (IntKind.wrap .i64 (k34 + 1))))] [] ?_ ?_
            · simp -implicitDefEqProofs only [RUNS, qindex, Nat.reduceAdd, Nat.reduceLeDiff, Nat.reduceSub, reduceIte, Nat.reduceEqDiff, Nat.reduceLT, reduceCtorEq, Nat.reduceMul, Nat.reduceBEq, Int.reduceEq, if_true, if_false, eq_self, ne_eq, env_bT, T_3, P29_eq, Var.pv_eq, P32_eq, GEnv.pv_eq, P41_eq, Redir.pv_eq, P152_eq, Cmd.pv_eq, P42_eq, Word.pv_eq, GValue.pv_eq, eqT_3]
            exact ⟨(m37, (s52, IntKind.wrap .i64 (k34 + 1))), h, (Weak.norm (m := 0) (Nat.le_of_ble_eq_true rfl) ⟨rfl, rfl, rfl, rfl, rfl, rfl, rfl, trivial⟩ rfl rfl rfl), Nat.lt_succ_self _⟩
        · replace h := bif_f hb38 h
          refine AW.exit ?_
          refine AW.seq ?_
          replace h := Option.bind_eq_some_iff.1 h; obtain ⟨c55, q56, h⟩ := h
          have f57 := sidx_g (guardO_t q56)
          refine AW.reg hS [(0, .pv (.slice (List.map GEnv.pv env1))), (1, .pv (.int .i64 group2)), (2, .pv (.str s3)), (8, .pv (.str out33)), (10, .pv (.int .i64 to12)), (86, .pv (.bool (decide (to12 < (s3.length : Int)) && decide (c55 = 94))))] [] ?_ ?_
          · clear h
            (simp -implicitDefEqProofs only [RUNS, qindex, Nat.reduceAdd, Nat.reduceLeDiff, Nat.reduceSub, reduceIte, Nat.reduceEqDiff, Nat.reduceLT, reduceCtorEq, Nat.reduceMul, Nat.reduceBEq, Int.reduceEq, if_true, if_false, eq_self, ne_eq, env_bT, T_3, T_5, T_9, P29_eq, Var.pv_eq, P32_eq, GEnv.pv_eq, P41_eq, Redir.pv_eq, P152_eq, Cmd.pv_eq, P42_eq, Word.pv_eq, GValue.pv_eq, eqT_3, f57.1, f57.2.1, f57.2.2, eqT_5]); repeat' (split <;> rename_i hb <;> (try simp only [HBS, ge_iff_le, gt_iff_lt] at hb) <;> simp -implicitDefEqProofs only [RUNS, qindex, Nat.reduceAdd, Nat.reduceLeDiff, Nat.reduceSub, reduceIte, Nat.reduceEqDiff, Nat.reduceLT, reduceCtorEq, Nat.reduceMul, Nat.reduceBEq, Int.reduceEq, if_true, if_false, eq_self, ne_eq, env_bT, T_3, T_5, T_9, P29_eq, Var.pv_eq, P32_eq, GEnv.pv_eq, P41_eq, Redir.pv_eq, P152_eq, Cmd.pv_eq, P42_eq, Word.pv_eq, GValue.pv_eq, eqT_3, f57.1, f57.2.1, f57.2.2, eqT_5, *, decide_true, decide_false, Decidable.not_not, not_false_eq_true, not_true_eq_false])
            all_goals (first | (simp only [BOOLS]; done) | (simp [*]; done) | ((try simp only [CLOS, beq_iff_eq, bne_iff_ne, ne_eq] at *) <;> omega) | (simp_all; done) | (simp_all <;> omega))
          refine AW.cond (b := (decide (to12 < (s3.length : Int)) && decide (c55 = 94))) rfl (fun hb58 => ?_) (fun hb58 => ?_)
          · replace h := bif_t hb58 h
            refine AW.reg hS [(0, .pv (.slice (List.map GEnv.pv env1))), (1, .pv (.int .i64 group2)), (2, .pv (.str s3)), (8, .pv (.str out33)), (10, .pv (.int .i64 (IntKind.wrap .i64 (to12 + 1))))] [] ?_ ?_
            · simp -implicitDefEqProofs only [RUNS, qindex, Nat.reduceAdd, Nat.reduceLeDiff, Nat.reduceSub, reduceIte, Nat.reduceEqDiff, Nat.reduceLT, reduceCtorEq, Nat.reduceMul, Nat.reduceBEq, Int.reduceEq, if_true, if_false, eq_self, ne_eq, env_bT, T_3, P29_eq, Var.pv_eq, P32_eq, GEnv.pv_eq, P41_eq, Redir.pv_eq, P152_eq, Cmd.pv_eq, P42_eq, Word.pv_eq, GValue.pv_eq, eqT_3]
            refine AW.reg hS [(0, .pv (.slice (List.map GEnv.pv env1))), (1, .pv (.int .i64 group2)), (2, .pv (.str s3)), (8, .pv (.str out33)), (9, .pv (.int .i64 (IntKind.wrap .i64 (to12 + 1))))] [] ?_ ?_
            · simp -implicitDefEqProofs only [RUNS, qindex, Nat.reduceAdd, Nat.reduceLeDiff, Nat.reduceSub, reduceIte, Nat.reduceEqDiff, Nat.reduceLT, reduceCtorEq, Nat.reduceMul, Nat.reduceBEq, Int.reduceEq, if_true, if_false, eq_self, ne_eq, env_bT, P29_eq, Var.pv_eq, P32_eq, GEnv.pv_eq, P41_eq, Redir.pv_eq, P152_eq, Cmd.pv_eq, P42_eq, Word.pv_eq, GValue.pv_eq]
            exact ⟨(m10, (out33, IntKind.wrap .i64 (to12 + 1))), h, (Weak.norm (m := 0) (Nat.le_of_ble_eq_true rfl) ⟨rfl, rfl, rfl, rfl, rfl, trivial⟩ rfl rfl rfl), Nat.lt_succ_self _⟩
          · replace h := bif_f hb58 h
            refine AW.skip ?_
            refine AW.reg hS [(0, .pv (.slice (List.map GEnv.pv env1))), (1, .pv (.int .i64 group2)), (2, .pv (.str s3)), (8, .pv (.str out33)), (9, .pv (.int .i64 to12))] [] ?_ ?_
            · simp -implicitDefEqProofs only [RUNS, qindex, Nat.reduceAdd, Nat.reduceLeDiff, Nat.reduceSub, reduceIte, Nat.reduceEqDiff, Nat.reduceLT, reduceCtorEq, Nat.reduceMul, Nat.reduceBEq, Int.reduceEq, if_true, if_false, eq_self, ne_eq, env_bT, P29_eq, Var.pv_eq, P32_eq, GEnv.pv_eq, P41_eq, Redir.pv_eq, P152_eq, Cmd.pv_eq, P42_eq, Word.pv_eq, GValue.pv_eq]
            exact ⟨(m10, (out33, to12)), h, (Weak.norm (m := 0) (Nat.le_of_ble_eq_true rfl) ⟨rfl, rfl, rfl, rfl, rfl, trivial⟩ rfl rfl rfl), Nat.lt_succ_self _⟩
      · replace h := bif_f hb26 h
        refine AW.seq ?_
        refine AW.reg hS [(0, .pv (.slice (List.map GEnv.pv env1))), (1, .pv (.int .i64 group2)), (2, .pv (.str s3)), (8, .pv (.str out6)), (9, .pv (.int .i64 i7)), (10, .pv (.int .i64 to12)), (89, .pv (.bool ((decide (c16 = 36) && decide (to12 < (s3.length : Int))) && decide (c19 = 36))))] [] ?_ ?_
        · clear h
          (simp -implicitDefEqProofs only [RUNS, qindex, Nat.reduceAdd, Nat.reduceLeDiff, Nat.reduceSub, reduceIte, Nat.reduceEqDiff, Nat.reduceLT, reduceCtorEq, Nat.reduceMul, Nat.reduceBEq, Int.reduceEq, if_true, if_false, eq_self, ne_eq, env_bT, T_3, T_5, T_9, P29_eq, Var.pv_eq, P32_eq, GEnv.pv_eq, P41_eq, Redir.pv_eq, P152_eq, Cmd.pv_eq, P42_eq, Word.pv_eq, GValue.pv_eq, f18.1, f18.2.1, f18.2.2, eqT_5, eqT_3, f21.1, f21.2.1, f21.2.2]); repeat' (split <;> rename_i hb <;> (try simp only [HBS, ge_iff_le, gt_iff_lt] at hb) <;> simp -implicitDefEqProofs only [RUNS, qindex, Nat.reduceAdd, Nat.reduceLeDiff, Nat.reduceSub, reduceIte, Nat.reduceEqDiff, Nat.reduceLT, reduceCtorEq, Nat.reduceMul, Nat.reduceBEq, Int.reduceEq, if_true, if_false, eq_self, ne_eq, env_bT, T_3, T_5, T_9, P29_eq, Var.pv_eq, P32_eq, GEnv.pv_eq, P41_eq, Redir.pv_eq, P152_eq, Cmd.pv_eq, P42_eq, Word.pv_eq, GValue.pv_eq, f18.1, f18.2.1, f18.2.2, eqT_5, eqT_3, f21.1, f21.2.1, f21.2.2, *, decide_true, decide_false, Decidable.not_not, not_false_eq_true, not_true_eq_false])
          all_goals (first | (simp only [BOOLS]; done) | (simp [*]; done) | ((try simp only [CLOS, beq_iff_eq, bne_iff_ne, ne_eq] at *) <;> omega) | (simp_all; done) | (simp_all <;> omega))
        refine AW.cond (b := ((decide (c16 = 36) && decide (to12 < (s3.length : Int))) && decide (c19 = 36))) rfl (fun hb60 => ?_) (fun hb60 => ?_)
        · replace h := bif_t hb60 h
          refine AW.seq ?_
          replace h := Option.bind_eq_some_iff.1 h; obtain ⟨s61, q62, h⟩ := h
          have f63 := catO_f q62
          try simp only [List.length_cons, List.length_nil, Nat.zero_add, Nat.reduceAdd, Nat.reduceLeDiff, Nat.add_zero, Nat.reduceMul] at f63
          refine AW.reg hS [(0, .pv (.slice (List.map GEnv.pv env1))), (1, .pv (.int .i64 group2)), (2, .pv (.str s3)), (8, .pv (.str s61)), (10, .pv (.int .i64 to12))] [] ?_ ?_
          · simp -implicitDefEqProofs only [RUNS, qindex, Nat.reduceAdd, Nat.reduceLeDiff, Nat.reduceSub, reduceIte, Nat.reduceEqDiff, Nat.reduceLT, reduceCtorEq, Nat.reduceMul, Nat.reduceBEq, Int.reduceEq, if_true, if_false, eq_self, ne_eq, env_bT, T_9, P29_eq, Var.pv_eq, P32_eq, GEnv.pv_eq, P41_eq, Redir.pv_eq, P152_eq, Cmd.pv_eq, P42_eq, Word.pv_eq, GValue.pv_eq, eqT_9, f63.1, f63.2]
          refine AW.reg hS [(0, .pv (.slice (List.map GEnv.pv env1))), (1, .pv (.int .i64 group2)), (2, .pv (.str s3)), (8, .pv (.str s61)), (10, .pv (.int .i64 (IntKind.wrap .i64 (to12 + 1))))] [] ?_ ?_
          · simp -implicitDefEqProofs only [RUNS, qindex, Nat.reduceAdd, Nat.reduceLeDiff, Nat.reduceSub, reduceIte, Nat.reduceEqDiff, Nat.reduceLT, reduceCtorEq, Nat.reduceMul, Nat.reduceBEq, Int.reduceEq, if_true, if_false, eq_self, ne_eq, env_bT, T_3, P29_eq, Var.pv_eq, P32_eq, GEnv.pv_eq, P41_eq, Redir.pv_eq, P152_eq, Cmd.pv_eq, P42_eq, Word.pv_eq, GValue.pv_eq, eqT_3]
          refine AW.reg hS [(0, .pv (.slice (List.map GEnv.pv env1))), (1, .pv (.int .i64 group2)), (2, .pv (.str s3)), (8, .pv (.str s61)), (9, .pv (.int .i64 (IntKind.wrap .i64 (to12 + 1))))] [] ?_ ?_
          · simp -implicitDefEqProofs only [RUNS, qindex, Nat.reduceAdd, Nat.reduceLeDiff, Nat.reduceSub, reduceIte, Nat.reduceEqDiff, Nat.reduceLT, reduceCtorEq, Nat.reduceMul, Nat.reduceBEq, Int.reduceEq, if_true, if_false, eq_self, ne_eq, env_bT, P29_eq, Var.pv_eq, P32_eq, GEnv.pv_eq, P41_eq, Redir.pv_eq, P152_eq, Cmd.pv_eq, P42_eq, Word.pv_eq, GValue.pv_eq]
          exact ⟨(m10, (s61, IntKind.wrap .i64 (to12 + 1))), h, (Weak.norm (m := 0) (Nat.le_of_ble_eq_true rfl) ⟨rfl, rfl, rfl, rfl, rfl, trivial⟩ rfl rfl rfl), Nat.lt_succ_self _⟩
        · replace h := bif_f hb60 h
          replace h := Option.bind_eq_some_iff.1 h; obtain ⟨t64, q65, h⟩ := h
          have f66 := sslice_f q65
          have f66e := f66.2.2.2.2
          try simp only [Int.toNat_natCast, Int.toNat_zero, List.drop_zero] at f66e
          have f66l := f66.2.2.1
          try simp only [Int.toNat_natCast, Int.toNat_zero] at f66l
          replace h := Option.bind_eq_some_iff.1 h; obtain ⟨s67, q68, h⟩ := h
          have f69 := catO_f q68
          try simp only [List.length_cons, List.length_nil, Nat.zero_add, Nat.reduceAdd, Nat.reduceLeDiff, Nat.add_zero, Nat.reduceMul] at f69
          refine AW.reg hS [(0, .pv (.slice (List.map GEnv.pv env1))), (1, .pv (.int .i64 group2)), (2, .pv (.str s3)), (8, .pv (.str s67)), (10, .pv (.int .i64 to12))] [] ?_ ?_
          · simp -implicitDefEqProofs only [RUNS, qindex, Nat.reduceAdd, Nat.reduceLeDiff, Nat.reduceSub, reduceIte, Nat.reduceEqDiff, Nat.reduceLT, reduceCtorEq, Nat.reduceMul, Nat.reduceBEq, Int.reduceEq, if_true, if_false, eq_self, ne_eq, env_bT, T_9, P29_eq, Var.pv_eq, P32_eq, GEnv.pv_eq, P41_eq, Redir.pv_eq, P152_eq, Cmd.pv_eq, P42_eq, Word.pv_eq, GValue.pv_eq, f66.1, f66.2.1, f66l, f66.2.2.2.1, f66e, Int.toNat_natCast, Int.toNat_zero, eqT_9, f69.1, f69.2]
          refine AW.reg hS [(0, .pv (.slice (List.map GEnv.pv env1))), (1, .pv (.int .i64 group2)), (2, .pv (.str s3)), (8, .pv (.str s67)), (9, .pv (.int .i64 to12))] [] ?_ ?_
          · simp -implicitDefEqProofs only [RUNS, qindex, Nat.reduceAdd, Nat.reduceLeDiff, Nat.reduceSub, reduceIte, Nat.reduceEqDiff, Nat.reduceLT, reduceCtorEq, Nat.reduceMul, Nat.reduceBEq, Int.reduceEq, if_true, if_false, eq_self, ne_eq, env_bT, P29_eq, Var.pv_eq, P32_eq, GEnv.pv_eq, P41_eq, Redir.pv_eq, P152_eq, Cmd.pv_eq, P42_eq, Word.pv_eq, GValue.pv_eq]
          exact ⟨(m10, (s67, to12)), h, (Weak.norm (m := 0) (Nat.le_of_ble_eq_true rfl) ⟨rfl, rfl, rfl, rfl, rfl, trivial⟩ rfl rfl rfl), Nat.lt_succ_self _⟩
  · replace h := bif_f hb11 h
    refine AW.exit ?_
    refine AW.seq ?_
    refine AW.seq ?_
    refine AW.reg hS [(8, .pv (.str out6)), (113, .pv (.bool (decide (65536 < (out6.length : Int)))))] [] ?_ ?_
    · simp -implicitDefEqProofs only [RUNS, qindex, Nat.reduceAdd, Nat.reduceLeDiff, Nat.reduceSub, reduceIte, Nat.reduceEqDiff, Nat.reduceLT, reduceCtorEq, Nat.reduceMul, Nat.reduceBEq, Int.reduceEq, if_true, if_false, eq_self, ne_eq, env_bT, T_3, T_9, P29_eq, Var.pv_eq, P32_eq, GEnv.pv_eq, P41_eq, Redir.pv_eq, P152_eq, Cmd.pv_eq, P42_eq, Word.pv_eq, GValue.pv_eq, eqT_3]
    refine AW.cond (b := decide (65536 < (out6.length : Int))) rfl (fun hb71 => ?_) (fun hb71 => ?_)
    · replace h := bif_t hb71 h
      refine AW.seq ?_
      refine AW.reg hS [(6, .pv (.str [])), (7, .pv (.int .i64 4))] [] ?_ ?_
      · simp -implicitDefEqProofs only [RUNS, qindex, Nat.reduceAdd, Nat.reduceLeDiff, Nat.reduceSub, reduceIte, Nat.reduceEqDiff, Nat.reduceLT, reduceCtorEq, Nat.reduceMul, Nat.reduceBEq, Int.reduceEq, if_true, if_false, eq_self, ne_eq, env_bT, P29_eq, Var.pv_eq, P32_eq, GEnv.pv_eq, P41_eq, Redir.pv_eq, P152_eq, Cmd.pv_eq, P42_eq, Word.pv_eq, GValue.pv_eq]
      refine AW.ret ?_
      cases h
      show finish _ _ _ _ _ = _
      first | rfl | (simp [finish, resOf, renArgs, toPV, selObjs, sl])
    · replace h := bif_f hb71 h
      refine AW.skip ?_
      refine AW.seq ?_
      refine AW.reg hS [(6, .pv (.str out6)), (7, .pv (.int .i64 0))] [] ?_ ?_
      · simp -implicitDefEqProofs only [RUNS, qindex, Nat.reduceAdd, Nat.reduceLeDiff, Nat.reduceSub, reduceIte, Nat.reduceEqDiff, Nat.reduceLT, reduceCtorEq, Nat.reduceMul, Nat.reduceBEq, Int.reduceEq, if_true, if_false, eq_self, ne_eq, env_bT, P29_eq, Var.pv_eq, P32_eq, GEnv.pv_eq, P41_eq, Redir.pv_eq, P152_eq, Cmd.pv_eq, P42_eq, Word.pv_eq, GValue.pv_eq]
      refine AW.ret ?_
      cases h
      show finish _ _ _ _ _ = _
      first | rfl | (simp [finish, resOf, renArgs, toPV, selObjs, sl])

set_option maxHeartbeats 4000000 in
theorem g_F32 {O : Orc} (hS : Sound env O) (hpf : O.pf = pfn) (c1 : Int) (s2 : Str) (r3 : Bool) (h : F32 c1 s2 = some r3) : Good env 32 [.pv (.int .u8 c1), .pv (.str s2)] [] [.pv (.bool r3)] [] := by
  refine Good.start (fn := Tryz.f32) (N := 17) fn_32 rfl rfl (by simp) [] _ rfl rfl ?_
  rw [F32] at h
  refine AW.seq ?_
  refine AW.reg hS [(0, .pv (.int .u8 c1)), (1, .pv (.str s2))] [] ?_ ?_
  · simp -implicitDefEqProofs only [RUNS, qindex, Nat.reduceAdd, Nat.reduceLeDiff, Nat.reduceSub, reduceIte, Nat.reduceEqDiff, Nat.reduceLT, reduceCtorEq, Nat.reduceMul, Nat.reduceBEq, Int.reduceEq, if_true, if_false, eq_self, ne_eq, env_bT, P29_eq, Var.pv_eq, P32_eq, GEnv.pv_eq, P41_eq, Redir.pv_eq, P152_eq, Cmd.pv_eq, P42_eq, Word.pv_eq, GValue.pv_eq]
  refine AW.seq ?_
  refine AW.seq ?_
  refine AW.reg hS [(0, .pv (.int .u8 c1)), (1, .pv (.str s2)), (5, .pv (.int .i64 0))] [] ?_ ?_
  · simp -implicitDefEqProofs only [RUNS, qindex, Nat.reduceAdd, Nat.reduceLeDiff, Nat.reduceSub, reduceIte, Nat.reduceEqDiff, Nat.reduceLT, reduceCtorEq, Nat.reduceMul, Nat.reduceBEq, Int.reduceEq, if_true, if_false, eq_self, ne_eq, env_bT, P29_eq, Var.pv_eq, P32_eq, GEnv.pv_eq, P41_eq, Redir.pv_eq, P152_eq, Cmd.pv_eq, P42_eq, Word.pv_eq, GValue.pv_eq]
  refine AW.block ?_
  refine AW.weak (Weak.slots (L := [(0, .pv (.int .u8 c1)), (1, .pv (.str s2)), (5, .pv (.int .i64 0))]) ⟨rfl, rfl, rfl, trivial⟩) ?_
  refine AW.loopI (α := Nat × Int) (fun (_, i4) => ⟨sl [(0, .pv (.int .u8 c1)), (1, .pv (.str s2)), (5, .pv (.int .i64 i4))], 17, []⟩) (fun x => iter (F32_b1 s2 c1) x.1 x.2 = some r3) (fun x => x.1) (BIG, 0) h ?_
  clear h
  intro ⟨n13, i4⟩ h
  replace h := iter_some h; obtain ⟨m7, rfl, h⟩ := h
  rw [F32_b1] at h
  try dsimp only at h
  show AW _ _ _ _ ⟨sl [(0, .pv (.int .u8 c1)), (1, .pv (.str s2)), (5, .pv (.int .i64 i4))], 17, []⟩
  refine AW.seq ?_
  refine AW.seq ?_
  refine AW.reg hS [(0, .pv (.int .u8 c1)), (1, .pv (.str s2)), (5, .pv (.int .i64 i4)), (9, .pv (.bool (decide (i4 < (s2.length : Int)))))] [] ?_ ?_
  · simp -implicitDefEqProofs only [RUNS, qindex, Nat.reduceAdd, Nat.reduceLeDiff, Nat.reduceSub, reduceIte, Nat.reduceEqDiff, Nat.reduceLT, reduceCtorEq, Nat.reduceMul, Nat.reduceBEq, Int.reduceEq, if_true, if_false, eq_self, ne_eq, env_bT, T_3, T_9, P29_eq, Var.pv_eq, P32_eq, GEnv.pv_eq, P41_eq, Redir.pv_eq, P152_eq, Cmd.pv_eq, P42_eq, Word.pv_eq, GValue.pv_eq, eqT_3]
  refine AW.cond (b := decide (i4 < (s2.length : Int))) rfl (fun hb8 => ?_) (fun hb8 => ?_)
  · replace h := bif_t hb8 h
    refine AW.skip ?_
    refine AW.seq ?_
    refine AW.block ?_
    refine AW.seq ?_
    replace h := Option.bind_eq_some_iff.1 h; obtain ⟨c9, q10, h⟩ := h
    have f11 := sidx_f q10
    refine AW.reg hS [(0, .pv (.int .u8 c1)), (1, .pv (.str s2)), (5, .pv (.int .i64 i4)), (16, .pv (.bool (decide (c9 = c1))))] [] ?_ ?_
    · simp -implicitDefEqProofs only [RUNS, qindex, Nat.reduceAdd, Nat.reduceLeDiff, Nat.reduceSub, reduceIte, Nat.reduceEqDiff, Nat.reduceLT, reduceCtorEq, Nat.reduceMul, Nat.reduceBEq, Int.reduceEq, if_true, if_false, eq_self, ne_eq, env_bT, T_5, T_9, P29_eq, Var.pv_eq, P32_eq, GEnv.pv_eq, P41_eq, Redir.pv_eq, P152_eq, Cmd.pv_eq, P42_eq, Word.pv_eq, GValue.pv_eq, f11.1, f11.2.1, f11.2.2, eqT_5]
    refine AW.cond (b := decide (c9 = c1)) rfl (fun hb12 => ?_) (fun hb12 => ?_)
    · replace h := bif_t hb12 h
      refine AW.seq ?_
      refine AW.reg hS [(4, .pv (.bool true))] [] ?_ ?_
      · simp -implicitDefEqProofs only [RUNS, qindex, Nat.reduceAdd, Nat.reduceLeDiff, Nat.reduceSub, reduceIte, Nat.reduceEqDiff, Nat.reduceLT, reduceCtorEq, Nat.reduceMul, Nat.reduceBEq, Int.reduceEq, if_true, if_false, eq_self, ne_eq, env_bT, P29_eq, Var.pv_eq, P32_eq, GEnv.pv_eq, P41_eq, Redir.pv_eq, P152_eq, Cmd.pv_eq, P42_eq, Word.pv_eq, GValue.pv_eq]
      refine AW.ret ?_
      cases h
      show finish _ _ _ _ _ = _
      first | rfl | (simp [finish, resOf, renArgs, toPV, selObjs, sl])
    · replace h := bif_f hb12 h
      refine AW.skip ?_
      refine AW.reg hS [(0, .pv (.int .u8 c1)), (1, .pv (.str s2)), (5, .pv (.int .i64 (IntKind.wrap .i64 (i4 + 1))))] [] ?_ ?_
      · simp -implicitDefEqProofs only [RUNS, qindex, Nat.reduceAdd, Nat.reduceLeDiff, Nat.reduceSub, reduceIte, Nat.reduceEqDiff, Nat.reduceLT, reduceCtorEq, Nat.reduceMul, Nat.reduceBEq, Int.reduceEq, if_true, if_false, eq_self, ne_eq, env_bT, T_3, P29_eq, Var.pv_eq, P32_eq, GEnv.pv_eq, P41_eq, Redir.pv_eq, P152_eq, Cmd.pv_eq, P42_eq, Word.pv_eq, GValue.pv_eq, eqT_3]
      exact ⟨(m7, IntKind.wrap .i64 (i4 + 1)), h, (Weak.norm (m := 0) (Nat.le_of_ble_eq_true rfl) ⟨rfl, rfl, rfl, trivial⟩ rfl rfl rfl), Nat.lt_succ_self _⟩
  · replace h := bif_f hb8 h
    refine AW.exit ?_
    refine AW.seq ?_
    refine AW.reg hS [(4, .pv (.bool false))] [] ?_ ?_
    · simp -implicitDefEqProofs only [RUNS, qindex, Nat.reduceAdd, Nat.reduceLeDiff, Nat.reduceSub, reduceIte, Nat.reduceEqDiff, Nat.reduceLT, reduceCtorEq, Nat.reduceMul, Nat.reduceBEq, Int.reduceEq, if_true, if_false, eq_self, ne_eq, env_bT, P29_eq, Var.pv_eq, P32_eq, GEnv.pv_eq, P41_eq, Redir.pv_eq, P152_eq, Cmd.pv_eq, P42_eq, Word.pv_eq, GValue.pv_eq]
    refine AW.ret ?_
    cases h
    show finish _ _ _ _ _ = _
    first | rfl | (simp [finish, resOf, renArgs, toPV, selObjs, sl])

set_option maxHeartbeats 4000000 in
theorem g_F11 {O : Orc} (hS : Sound env O) (hpf : O.pf = pfn) (c_F32 : C_F32 O) (s1 : Str) (ifs2 : Str) (r3 : List Str) (h : F11 s1 ifs2 = some r3) : Good env 11 [.pv (.str s1), .pv (.str ifs2)] [] [.pv (.slice (List.map PV.str r3))] [] := by
  have pf_32 : O.pf 32 = true := by rw [hpf]; rfl
  refine Good.start (fn := Tryz.f11) (N := 38) fn_11 rfl rfl (by simp) [] _ rfl rfl ?_
  rw [F11] at h
  refine AW.seq ?_
  refine AW.reg hS [(0, .pv (.str s1)), (1, .pv (.str ifs2))] [] ?_ ?_
  · simp -implicitDefEqProofs only [RUNS, qindex, Nat.reduceAdd, Nat.reduceLeDiff, Nat.reduceSub, reduceIte, Nat.reduceEqDiff, Nat.reduceLT, reduceCtorEq, Nat.reduceMul, Nat.reduceBEq, Int.reduceEq, if_true, if_false, eq_self, ne_eq, env_bT, P29_eq, Var.pv_eq, P32_eq, GEnv.pv_eq, P41_eq, Redir.pv_eq, P152_eq, Cmd.pv_eq, P42_eq, Word.pv_eq, GValue.pv_eq]
  refine AW.seq ?_
  refine AW.reg hS [(0, .pv (.str s1)), (1, .pv (.str ifs2)), (5, .nils)] [] ?_ ?_
  · simp -implicitDefEqProofs only [RUNS, qindex, Nat.reduceAdd, Nat.reduceLeDiff, Nat.reduceSub, reduceIte, Nat.reduceEqDiff, Nat.reduceLT, reduceCtorEq, Nat.reduceMul, Nat.reduceBEq, Int.reduceEq, if_true, if_false, eq_self, ne_eq, env_bT, P29_eq, Var.pv_eq, P32_eq, GEnv.pv_eq, P41_eq, Redir.pv_eq, P152_eq, Cmd.pv_eq, P42_eq, Word.pv_eq, GValue.pv_eq]
  refine AW.weak (Weak.own 5 9 1 (by decide) rfl) ?_
  refine AW.weak (Weak.slots (L := [(0, .pv (.str s1)), (1, .pv (.str ifs2)), (5, .vec 0 (List.length ([] : List Str)))]) ⟨rfl, rfl, rfl, trivial⟩) ?_
  refine AW.seq ?_
  refine AW.reg hS [(0, .pv (.str s1)), (1, .pv (.str ifs2)), (5, .vec 0 (List.length ([] : List Str))), (6, .pv (.int .i64 0))] [.row 9 1 (List.map PV.str ([] : List Str)) true] ?_ ?_
  · simp -implicitDefEqProofs only [RUNS, qindex, Nat.reduceAdd, Nat.reduceLeDiff, Nat.reduceSub, reduceIte, Nat.reduceEqDiff, Nat.reduceLT, reduceCtorEq, Nat.reduceMul, Nat.reduceBEq, Int.reduceEq, if_true, if_false, eq_self, ne_eq, env_bT, P29_eq, Var.pv_eq, P32_eq, GEnv.pv_eq, P41_eq, Redir.pv_eq, P152_eq, Cmd.pv_eq, P42_eq, Word.pv_eq, GValue.pv_eq]
  refine AW.seq ?_
  refine AW.seq ?_
  refine AW.reg hS [(0, .pv (.str s1)), (1, .pv (.str ifs2)), (5, .vec 0 (List.length ([] : List Str))), (6, .pv (.int .i64 0)), (7, .pv (.int .i64 0))] [.row 9 1 (List.map PV.str ([] : List Str)) true] ?_ ?_
  · simp -implicitDefEqProofs only [RUNS, qindex, Nat.reduceAdd, Nat.reduceLeDiff, Nat.reduceSub, reduceIte, Nat.reduceEqDiff, Nat.reduceLT, reduceCtorEq, Nat.reduceMul, Nat.reduceBEq, Int.reduceEq, if_true, if_false, eq_self, ne_eq, env_bT, P29_eq, Var.pv_eq, P32_eq, GEnv.pv_eq, P41_eq, Redir.pv_eq, P152_eq, Cmd.pv_eq, P42_eq, Word.pv_eq, GValue.pv_eq]
  refine AW.block ?_
  refine AW.weak (Weak.slots (L := [(0, .pv (.str s1)), (1, .pv (.str ifs2)), (5, .vec 0 (List.length ([] : List Str))), (6, .pv (.int .i64 0)), (7, .pv (.int .i64 0))]) ⟨rfl, rfl, rfl, rfl, rfl, trivial⟩) ?_
  refine AW.loopI (α := Nat × Int × Int × (List Str)) (fun (_, from4, i5, l6) => ⟨sl [(0, .pv (.str s1)), (1, .pv (.str ifs2)), (5, .vec 0 (List.length l6)), (6, .pv (.int .i64 from4)), (7, .pv (.int .i64 i5))], 38, [.row 9 1 (List.map PV.str l6) true]⟩) (fun x => iter (F11_b1 s1 ifs2) x.1 x.2 = some r3) (fun x => x.1) (BIG, (0, 0, ([] : List Str))) h ?_
  clear h
  intro ⟨n25, from4, i5, l6⟩ h
  replace h := iter_some h; obtain ⟨m9, rfl, h⟩ := h
  rw [F11_b1] at h
  try dsimp only at h
  show AW _ _ _ _ ⟨sl [(0, .pv (.str s1)), (1, .pv (.str ifs2)), (5, .vec 0 (List.length l6)), (6, .pv (.int .i64 from4)), (7, .pv (.int .i64 i5))], 38, [.row 9 1 (List.map PV.str l6) true]⟩
  refine AW.seq ?_
  refine AW.seq ?_
  refine AW.reg hS [(0, .pv (.str s1)), (1, .pv (.str ifs2)), (5, .vec 0 (List.length l6)), (6, .pv (.int .i64 from4)), (7, .pv (.int .i64 i5)), (11, .pv (.bool (decide (i5 ≤ (s1.length : Int)))))] [.row 9 1 (List.map PV.str l6) true] ?_ ?_
  · simp -implicitDefEqProofs only [RUNS, qindex, Nat.reduceAdd, Nat.reduceLeDiff, Nat.reduceSub, reduceIte, Nat.reduceEqDiff, Nat.reduceLT, reduceCtorEq, Nat.reduceMul, Nat.reduceBEq, Int.reduceEq, if_true, if_false, eq_self, ne_eq, env_bT, T_3, T_9, P29_eq, Var.pv_eq, P32_eq, GEnv.pv_eq, P41_eq, Redir.pv_eq, P152_eq, Cmd.pv_eq, P42_eq, Word.pv_eq, GValue.pv_eq, eqT_3]
  refine AW.cond (b := decide (i5 ≤ (s1.length : Int))) rfl (fun hb10 => ?_) (fun hb10 => ?_)
  · replace h := bif_t hb10 h
    refine AW.skip ?_
    refine AW.seq ?_
    refine AW.block ?_
    refine AW.seq ?_
    replace h := Option.bind_eq_some_iff.1 h; obtain ⟨c11, q12, h⟩ := h
    have f13 := sidx_g (guardO_t q12)
    replace h := Option.bind_eq_some_iff.1 h; obtain ⟨r14, q15, h⟩ := h
    have f16 := fun hg => c_F32 c11 ifs2 r14 (guardO_t q15 hg)
    try dsimp only at f16
    refine AW.reg hS [(0, .pv (.str s1)), (1, .pv (.str ifs2)), (5, .vec 0 (List.length l6)), (6, .pv (.int .i64 from4)), (7, .pv (.int .i64 i5)), (24, .pv (.bool (decide (i5 = (s1.length : Int)) || r14)))] [.row 9 1 (List.map PV.str l6) true] ?_ ?_
    · clear h
      (simp -implicitDefEqProofs only [RUNS, qindex, Nat.reduceAdd, Nat.reduceLeDiff, Nat.reduceSub, reduceIte, Nat.reduceEqDiff, Nat.reduceLT, reduceCtorEq, Nat.reduceMul, Nat.reduceBEq, Int.reduceEq, if_true, if_false, eq_self, ne_eq, env_bT, T_3, T_5, T_9, P29_eq, Var.pv_eq, P32_eq, GEnv.pv_eq, P41_eq, Redir.pv_eq, P152_eq, Cmd.pv_eq, P42_eq, Word.pv_eq, GValue.pv_eq, eqT_3, f13.1, f13.2.1, f13.2.2, pf_32, f16]); repeat' (split <;> rename_i hb <;> (try simp only [HBS, ge_iff_le, gt_iff_lt] at hb) <;> simp -implicitDefEqProofs only [RUNS, qindex, Nat.reduceAdd, Nat.reduceLeDiff, Nat.reduceSub, reduceIte, Nat.reduceEqDiff, Nat.reduceLT, reduceCtorEq, Nat.reduceMul, Nat.reduceBEq, Int.reduceEq, if_true, if_false, eq_self, ne_eq, env_bT, T_3, T_5, T_9, P29_eq, Var.pv_eq, P32_eq, GEnv.pv_eq, P41_eq, Redir.pv_eq, P152_eq, Cmd.pv_eq, P42_eq, Word.pv_eq, GValue.pv_eq, eqT_3, f13.1, f13.2.1, f13.2.2, pf_32, f16, *, decide_true, decide_false, Decidable.not_not, not_false_eq_true, not_true_eq_false])
      all_goals (first | (simp only [BOOLS]; done) | (simp [*]; done) | ((try simp only [CLOS, beq_iff_eq, bne_iff_ne, ne_eq] at *) <;> omega) | (simp_all; done) | (simp_all <;> omega))
    refine AW.cond (b := (decide (i5 = (s1.length : Int)) || r14)) rfl (fun hb17 => ?_) (fun hb17 => ?_)
    · replace h := bif_t hb17 h
      refine AW.seq ?_
      refine AW.seq ?_
      refine AW.reg hS [(0, .pv (.str s1)), (1, .pv (.str ifs2)), (5, .vec 0 (List.length l6)), (6, .pv (.int .i64 from4)), (7, .pv (.int .i64 i5)), (27, .pv (.bool (decide (from4 < i5))))] [.row 9 1 (List.map PV.str l6) true] ?_ ?_
      · simp -implicitDefEqProofs only [RUNS, qindex, Nat.reduceAdd, Nat.reduceLeDiff, Nat.reduceSub, reduceIte, Nat.reduceEqDiff, Nat.reduceLT, reduceCtorEq, Nat.reduceMul, Nat.reduceBEq, Int.reduceEq, if_true, if_false, eq_self, ne_eq, env_bT, T_3, P29_eq, Var.pv_eq, P32_eq, GEnv.pv_eq, P41_eq, Redir.pv_eq, P152_eq, Cmd.pv_eq, P42_eq, Word.pv_eq, GValue.pv_eq, eqT_3]
      refine AW.cond (b := decide (from4 < i5)) rfl (fun hb18 => ?_) (fun hb18 => ?_)
      · replace h := bif_t hb18 h
        replace h := Option.bind_eq_some_iff.1 h; obtain ⟨t19, q20, h⟩ := h
        have f21 := sslice_f q20
        have f21e := f21.2.2.2.2
        try simp only [Int.toNat_natCast, Int.toNat_zero, List.drop_zero] at f21e
        have f21l := f21.2.2.1
        try simp only [Int.toNat_natCast, Int.toNat_zero] at f21l
        replace h := Option.bind_eq_some_iff.1 h; obtain ⟨out22, q23, h⟩ := h
        have f24 := appO_f q23
        try simp only [List.length_cons, List.length_nil, Nat.zero_add, Nat.reduceAdd, Nat.reduceLeDiff, Nat.add_zero, Nat.reduceMul] at f24
        refine AW.reg hS [(0, .pv (.str s1)), (1, .pv (.str ifs2)), (5, .vec 0 (List.length out22)), (7, .pv (.int .i64 i5))] [.row 9 1 (List.map PV.str out22) true] ?_ ?_
        · simp -implicitDefEqProofs only [RUNS, qindex, Nat.reduceAdd, Nat.reduceLeDiff, Nat.reduceSub, reduceIte, Nat.reduceEqDiff, Nat.reduceLT, reduceCtorEq, Nat.reduceMul, Nat.reduceBEq, Int.reduceEq, if_true, if_false, eq_self, ne_eq, env_bT, T_9, T_29, P29_eq, Var.pv_eq, P32_eq, GEnv.pv_eq, P41_eq, Redir.pv_eq, P152_eq, Cmd.pv_eq, P42_eq, Word.pv_eq, GValue.pv_eq, f21.1, f21.2.1, f21l, f21.2.2.2.1, f21e, Int.toNat_natCast, Int.toNat_zero, ownT_29, f24.1, f24.2, str_all] <;> (try simp only [List.length_take, List.length_drop, List.length_map])
        clear f24
        refine AW.reg hS [(0, .pv (.str s1)), (1, .pv (.str ifs2)), (5, .vec 0 (List.length out22)), (6, .pv (.int .i64 (IntKind.wrap .i64 (i5 + 1)))), (7, .pv (.int .i64 i5))] [.row 9 1 (List.map PV.str out22) true] ?_ ?_
        · simp -implicitDefEqProofs only [RUNS, qindex, Nat.reduceAdd, Nat.reduceLeDiff, Nat.reduceSub, reduceIte, Nat.reduceEqDiff, Nat.reduceLT, reduceCtorEq, Nat.reduceMul, Nat.reduceBEq, Int.reduceEq, if_true, if_false, eq_self, ne_eq, env_bT, T_3, P29_eq, Var.pv_eq, P32_eq, GEnv.pv_eq, P41_eq, Redir.pv_eq, P152_eq, Cmd.pv_eq, P42_eq, Word.pv_eq, GValue.pv_eq, eqT_3]
        refine AW.reg hS [(0, .pv (.str s1)), (1, .pv (.str ifs2)), (5, .vec 0 (List.length out22)), (6, .pv (.int .i64 (IntKind.wrap .i64 (i5 + 1)))), (7, .pv (.int .i64 (IntKind.wrap .i64 (i5 + 1))))] [.row 9 1 (List.map PV.str out22) true] ?_ ?_
        · simp -implicitDefEqProofs only [RUNS, qindex, Nat.reduceAdd, Nat.reduceLeDiff, Nat.reduceSub, reduceIte, Nat.reduceEqDiff, Nat.reduceLT, reduceCtorEq, Nat.reduceMul, Nat.reduceBEq, Int.reduceEq, if_true, if_false, eq_self, ne_eq, env_bT, T_3, P29_eq, Var.pv_eq, P32_eq, GEnv.pv_eq, P41_eq, Redir.pv_eq, P152_eq, Cmd.pv_eq, P42_eq, Word.pv_eq, GValue.pv_eq, eqT_3]
        exact ⟨(m9, (IntKind.wrap .i64 (i5 + 1), IntKind.wrap .i64 (i5 + 1), out22)), h, (Weak.norm (m := 1) (Nat.le_of_ble_eq_true rfl) ⟨rfl, rfl, rfl, rfl, rfl, trivial⟩ rfl rfl rfl), Nat.lt_succ_self _⟩
      · replace h := bif_f hb18 h
        refine AW.skip ?_
        refine AW.reg hS [(0, .pv (.str s1)), (1, .pv (.str ifs2)), (5, .vec 0 (List.length l6)), (6, .pv (.int .i64 (IntKind.wrap .i64 (i5 + 1)))), (7, .pv (.int .i64 i5))] [.row 9 1 (List.map PV.str l6) true] ?_ ?_
        · simp -implicitDefEqProofs only [RUNS, qindex, Nat.reduceAdd, Nat.reduceLeDiff, Nat.reduceSub, reduceIte, Nat.reduceEqDiff, Nat.reduceLT, reduceCtorEq, Nat.reduceMul, Nat.reduceBEq, Int.reduceEq, if_true, if_false, eq_self, ne_eq, env_bT, T_3, P29_eq, Var.pv_eq, P32_eq, GEnv.pv_eq, P41_eq, Redir.pv_eq, P152_eq, Cmd.pv_eq, P42_eq, Word.pv_eq, GValue.pv_eq, eqT_3]
        refine AW.reg hS [(0, .pv (.str s1)), (1, .pv (.str ifs2)), (5, .vec 0 (List.length l6)), (6, .pv (.int .i64 (IntKind.wrap .i64 (i5 + 1)))), (7, .pv (.int .i64 (IntKind.wrap .i64 (i5 + 1))))] [.row 9 1 (List.map PV.str l6) true] ?_ ?_
        · simp -implicitDefEqProofs only [RUNS, qindex, Nat.reduceAdd, Nat.reduceLeDiff, Nat.reduceSub, reduceIte, Nat.reduceEqDiff, Nat.reduceLT, reduceCtorEq, Nat.reduceMul, Nat.reduceBEq, Int.reduceEq, if_true, if_false, eq_self, ne_eq, env_bT, T_3, P29_eq, Var.pv_eq, P32_eq, GEnv.pv_eq, P41_eq, Redir.pv_eq, P152_eq, Cmd.pv_eq, P42_eq, Word.pv_eq, GValue.pv_eq, eqT_3]
        exact ⟨(m9, (IntKind.wrap .i64 (i5 + 1), IntKind.wrap .i64 (i5 + 1), l6)), h, (Weak.norm (m := 1) (Nat.le_of_ble_eq_true rfl) ⟨rfl, rfl, rfl, rfl, rfl, trivial⟩ rfl rfl rfl), Nat.lt_succ_self _⟩
    · replace h := bif_f hb17 h
      refine AW.skip ?_
      refine AW.reg hS [(0, .pv (.str s1)), (1, .pv (.str ifs2)), (5, .vec 0 (List.length l6)), (6, .pv (.int .i64 from4)), (7, .pv (.int .i64 (IntKind.wrap .i64 (i5 + 1))))] [.row 9 1 (List.map PV.str l6) true] ?_ ?_
      · simp -implicitDefEqProofs only [RUNS, qindex, Nat.reduceAdd, Nat.reduceLeDiff, Nat.reduceSub, reduceIte, Nat.reduceEqDiff, Nat.reduceLT, reduceCtorEq, Nat.reduceMul, Nat.reduceBEq, Int.reduceEq, if_true, if_false, eq_self, ne_eq, env_bT, T_3, P29_eq, Var.pv_eq, P32_eq, GEnv.pv_eq, P41_eq, Redir.pv_eq, P152_eq, Cmd.pv_eq, P42_eq, Word.pv_eq, GValue.pv_eq, eqT_3]
      exact ⟨(m9, (from4, IntKind.wrap .i64 (i5 + 1), l6)), h, (Weak.norm (m := 1) (Nat.le_of_ble_eq_true rfl) ⟨rfl, rfl, rfl, rfl, rfl, trivial⟩ rfl rfl rfl), Nat.lt_succ_self _⟩
  · replace h := bif_f hb10 h
    refine AW.exit ?_
    refine AW.seq ?_
    refine AW.reg hS [(4, .vec 0 (List.length l6))] [.row 9 1 (List.map PV.str l6) true] ?_ ?_
    · simp -implicitDefEqProofs only [RUNS, qindex, Nat.reduceAdd, Nat.reduceLeDiff, Nat.reduceSub, reduceIte, Nat.reduceEqDiff, Nat.reduceLT, reduceCtorEq, Nat.reduceMul, Nat.reduceBEq, Int.reduceEq, if_true, if_false, eq_self, ne_eq, env_bT, P29_eq, Var.pv_eq, P32_eq, GEnv.pv_eq, P41_eq, Redir.pv_eq, P152_eq, Cmd.pv_eq, P42_eq, Word.pv_eq, GValue.pv_eq]
    refine AW.ret ?_
    cases h
    show finish _ _ _ _ _ = _
    first | rfl | (simp [finish, resOf, renArgs, toPV, selObjs, sl])

set_option maxHeartbeats 4000000 in
theorem g_F3 {O : Orc} (hS : Sound env O) (hpf : O.pf = pfn) (c_F4 : C_F4 O) (c_F5 : C_F5 O) (c_F6 : C_F6 O) (c_F7 : C_F7 O) (c_F8 : C_F8 O) (c_F10 : C_F10 O) (c_F11 : C_F11 O) (c_F9 : C_F9 O) (l1 : List GEnv) (s2 : Str) (ifs3 : Str) (r4 : Bool) (h : F3 l1 s2 ifs3 = some r4) : Good env 3 [.pv (.slice (List.map GEnv.pv l1)), .pv (.str s2), .pv (.str ifs3)] [] [.pv (.bool r4)] [] := by
  have pf_4 : O.pf 4 = true := by rw [hpf]; rfl
  have pf_5 : O.pf 5 = true := by rw [hpf]; rfl
  have pf_6 : O.pf 6 = true := by rw [hpf]; rfl
  have pf_7 : O.pf 7 = true := by rw [hpf]; rfl
  have pf_8 : O.pf 8 = true := by rw [hpf]; rfl
  have pf_9 : O.pf 9 = true := by rw [hpf]; rfl
  have pf_10 : O.pf 10 = true := by rw [hpf]; rfl
  have pf_11 : O.pf 11 = true := by rw [hpf]; rfl
  refine Good.start (fn := Tryz.f3) (N := 62) fn_3 rfl rfl (by simp) [] _ rfl rfl ?_
  rw [F3] at h
  refine AW.seq ?_
  refine AW.reg hS [(0, .pv (.slice (List.map GEnv.pv l1))), (1, .pv (.str s2)), (2, .pv (.str ifs3))] [] ?_ ?_
  · simp -implicitDefEqProofs only [RUNS, qindex, Nat.reduceAdd, Nat.reduceLeDiff, Nat.reduceSub, reduceIte, Nat.reduceEqDiff, Nat.reduceLT, reduceCtorEq, Nat.reduceMul, Nat.reduceBEq, Int.reduceEq, if_true, if_false, eq_self, ne_eq, env_bT, P29_eq, Var.pv_eq, P32_eq, GEnv.pv_eq, P41_eq, Redir.pv_eq, P152_eq, Cmd.pv_eq, P42_eq, Word.pv_eq, GValue.pv_eq]
  refine AW.seq ?_
  refine AW.seq ?_
  replace h := Option.bind_eq_some_iff.1 h; obtain ⟨r5, q6, h⟩ := h
  have f7 := c_F4 l1 r5 q6
  try dsimp only at f7
  replace h := Option.bind_eq_some_iff.1 h; obtain ⟨r8, q9, h⟩ := h
  have f10 := fun hg => c_F5 l1 r8 (guardO_t q9 hg)
  try dsimp only at f10
  refine AW.reg hS [(0, .pv (.slice (List.map GEnv.pv l1))), (1, .pv (.str s2)), (2, .pv (.str ifs3)), (28, .pv (.bool (((!r5 || decide (2000 < (s2.length : Int))) || decide (300 < (ifs3.length : Int))) || !r8)))] [] ?_ ?_
  · clear h
    (simp -implicitDefEqProofs only [RUNS, qindex, Nat.reduceAdd, Nat.reduceLeDiff, Nat.reduceSub, reduceIte, Nat.reduceEqDiff, Nat.reduceLT, reduceCtorEq, Nat.reduceMul, Nat.reduceBEq, Int.reduceEq, if_true, if_false, eq_self, ne_eq, env_bT, T_3, T_9, T_22, T_34, P29_eq, Var.pv_eq, P32_eq, GEnv.pv_eq, P41_eq, Redir.pv_eq, P152_eq, Cmd.pv_eq, P42_eq, Word.pv_eq, GValue.pv_eq, pf_4, f7, eqT_3, pf_5, f10]); repeat' (split <;> rename_i hb <;> (try simp only [HBS, ge_iff_le, gt_iff_lt] at hb) <;> simp -implicitDefEqProofs only [RUNS, qindex, Nat.reduceAdd, Nat.reduceLeDiff, Nat.reduceSub, reduceIte, Nat.reduceEqDiff, Nat.reduceLT, reduceCtorEq, Nat.reduceMul, Nat.reduceBEq, Int.reduceEq, if_true, if_false, eq_self, ne_eq, env_bT, T_3, T_9, T_22, T_34, P29_eq, Var.pv_eq, P32_eq, GEnv.pv_eq, P41_eq, Redir.pv_eq, P152_eq, Cmd.pv_eq, P42_eq, Word.pv_eq, GValue.pv_eq, pf_4, f7, eqT_3, pf_5, f10, *, decide_true, decide_false, Decidable.not_not, not_false_eq_true, not_true_eq_false])
    all_goals (first | (simp only [BOOLS]; done) | (simp [*]; done) | ((try simp only [CLOS, beq_iff_eq, bne_iff_ne, ne_eq] at *) <;> omega) | (simp_all; done) | (simp_all <;> omega))
  refine AW.cond (b := (((!r5 || decide (2000 < (s2.length : Int))) || decide (300 < (ifs3.length : Int))) || !r8)) rfl (fun hb11 => ?_) (fun hb11 => ?_)
  · replace h := bif_t hb11 h
    refine AW.seq ?_
    replace h := Option.bind_eq_some_iff.1 h; obtain ⟨r12, q13, h⟩ := h
    have f14 := c_F6 r12 q13
    try dsimp only at f14
    refine AW.reg hS [(6, .pv (.bool r12))] [] ?_ ?_
    · simp -implicitDefEqProofs only [RUNS, qindex, Nat.reduceAdd, Nat.reduceLeDiff, Nat.reduceSub, reduceIte, Nat.reduceEqDiff, Nat.reduceLT, reduceCtorEq, Nat.reduceMul, Nat.reduceBEq, Int.reduceEq, if_true, if_false, eq_self, ne_eq, env_bT, P29_eq, Var.pv_eq, P32_eq, GEnv.pv_eq, P41_eq, Redir.pv_eq, P152_eq, Cmd.pv_eq, P42_eq, Word.pv_eq, GValue.pv_eq, pf_6, f14]
    refine AW.ret ?_
    cases h
    show finish _ _ _ _ _ = _
    first | rfl | (simp [finish, resOf, renArgs, toPV, selObjs, sl])
  · replace h := bif_f hb11 h
    refine AW.skip ?_
    refine AW.seq ?_
    replace h := Option.bind_eq_some_iff.1 h; obtain ⟨⟨r15, r16⟩, q17, h⟩ := h
    dsimp only at h
    have f18 := c_F7 l1 1 s2 r15 r16 q17
    try dsimp only at f18
    refine AW.reg hS [(0, .pv (.slice (List.map GEnv.pv l1))), (1, .pv (.str s2)), (2, .pv (.str ifs3)), (7, .pv (.str r15)), (8, .pv (.int .i64 r16))] [] ?_ ?_
    · simp -implicitDefEqProofs only [RUNS, qindex, Nat.reduceAdd, Nat.reduceLeDiff, Nat.reduceSub, reduceIte, Nat.reduceEqDiff, Nat.reduceLT, reduceCtorEq, Nat.reduceMul, Nat.reduceBEq, Int.reduceEq, if_true, if_false, eq_self, ne_eq, env_bT, T_3, T_9, T_22, T_34, P29_eq, Var.pv_eq, P32_eq, GEnv.pv_eq, P41_eq, Redir.pv_eq, P152_eq, Cmd.pv_eq, P42_eq, Word.pv_eq, GValue.pv_eq, pf_7, f18]
    refine AW.seq ?_
    replace h := Option.bind_eq_some_iff.1 h; obtain ⟨⟨r19, r20⟩, q21, h⟩ := h
    dsimp only at h
    have f22 := c_F8 l1 1 s2 r19 r20 q21
    try dsimp only at f22
    refine AW.reg hS [(1, .pv (.str s2)), (2, .pv (.str ifs3)), (7, .pv (.str r15)), (8, .pv (.int .i64 r16)), (9, .pv (.str r19)), (10, .pv (.int .i64 r20))] [] ?_ ?_
    · simp -implicitDefEqProofs only [RUNS, qindex, Nat.reduceAdd, Nat.reduceLeDiff, Nat.reduceSub, reduceIte, Nat.reduceEqDiff, Nat.reduceLT, reduceCtorEq, Nat.reduceMul, Nat.reduceBEq, Int.reduceEq, if_true, if_false, eq_self, ne_eq, env_bT, T_3, T_9, T_22, T_34, P29_eq, Var.pv_eq, P32_eq, GEnv.pv_eq, P41_eq, Redir.pv_eq, P152_eq, Cmd.pv_eq, P42_eq, Word.pv_eq, GValue.pv_eq, pf_8, f22]
    refine AW.seq ?_
    replace h := Option.bind_eq_some_iff.1 h; obtain ⟨r23, q24, h⟩ := h
    have f25 := c_F10 s2 ifs3 r23 q24
    try dsimp only at f25
    replace h := Option.bind_eq_some_iff.1 h; obtain ⟨r26, q27, h⟩ := h
    have f28 := c_F11 s2 ifs3 r26 q27
    try dsimp only at f28
    replace h := Option.bind_eq_some_iff.1 h; obtain ⟨r29, q30, h⟩ := h
    have f31 := c_F9 r23 r26 r29 q30
    try dsimp only at f31
    replace h := Option.bind_eq_some_iff.1 h; obtain ⟨r32, q33, h⟩ := h
    have f34 := fun hg => c_F6 r32 (guardO_t q33 hg)
    try dsimp only at f34
    refine AW.reg hS [(6, .pv (.bool (((r29 && decide (r15 = r19)) && decide (r16 = r20)) && r32)))] [] ?_ ?_
    · clear h
      (simp -implicitDefEqProofs only [RUNS, qindex, Nat.reduceAdd, Nat.reduceLeDiff, Nat.reduceSub, reduceIte, Nat.reduceEqDiff, Nat.reduceLT, reduceCtorEq, Nat.reduceMul, Nat.reduceBEq, Int.reduceEq, if_true, if_false, eq_self, ne_eq, env_bT, T_9, T_25, T_29, P29_eq, Var.pv_eq, P32_eq, GEnv.pv_eq, P41_eq, Redir.pv_eq, P152_eq, Cmd.pv_eq, P42_eq, Word.pv_eq, GValue.pv_eq, pf_10, f25, pf_11, f28, pf_9, f31, eqT_9, eqT_25, pf_6, f34]); repeat' (split <;> rename_i hb <;> (try simp only [HBS, ge_iff_le, gt_iff_lt] at hb) <;> simp -implicitDefEqProofs only [RUNS, qindex, Nat.reduceAdd, Nat.reduceLeDiff, Nat.reduceSub, reduceIte, Nat.reduceEqDiff, Nat.reduceLT, reduceCtorEq, Nat.reduceMul, Nat.reduceBEq, Int.reduceEq, if_true, if_false, eq_self, ne_eq, env_bT, T_9, T_25, T_29, P29_eq, Var.pv_eq, P32_eq, GEnv.pv_eq, P41_eq, Redir.pv_eq, P152_eq, Cmd.pv_eq, P42_eq, Word.pv_eq, GValue.pv_eq, pf_10, f25, pf_11, f28, pf_9, f31, eqT_9, eqT_25, pf_6, f34, *, decide_true, decide_false, Decidable.not_not, not_false_eq_true, not_true_eq_false])
      all_goals (first | (simp only [BOOLS]; done) | (simp [*]; done) | ((try simp only [CLOS, beq_iff_eq, bne_iff_ne, ne_eq] at *) <;> omega) | (simp_all; done) | (simp_all <;> omega))
    refine AW.ret ?_
    cases h
    show finish _ _ _ _ _ = _
    first | rfl | (simp [finish, resOf, renArgs, toPV, selObjs, sl])

end Go.Abs.U5Z
