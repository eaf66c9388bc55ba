/- The layer 29 laws: the functions walked. -/
import Derived.Test.YtkiajanddmgmnaaDoorD1
set_option linter.unusedVariables false
set_option linter.unusedSimpArgs false
set_option maxRecDepth 8000
namespace Go.Abs.U29
open Go.RowKit Go.Proofs

set_option maxHeartbeats 4000000 in
theorem g_F41 {O : Orc} (hS : Sound env O) (hpf : O.pf = pfn) (g1 : GEnv) (name2 : Str) (r3 : Int) (h : F41 g1 name2 = some r3) : Good env 41 [.pv (.agg [.int .i64 g1.id_, .int .i64 g1.next_, .slice (List.map Var.pv g1.vars_)]), .pv (.str name2)] [] [.pv (.int .i64 r3)] [] := by
  refine Good.start (fn := Tryd.f41) (N := 22) fn_41 rfl rfl (by simp) [] _ rfl rfl ?_
  rw [F41] at h
  refine AW.seq ?_
  refine AW.reg hS [(1, .pv (.str name2)), (2, .ref 0 0)] [.var [.pv (.int .i64 g1.id_), .pv (.int .i64 g1.next_), .pv (.slice (List.map Var.pv g1.vars_))]] ?_ ?_
  · simp -implicitDefEqProofs only [RUNS, qindex, Nat.reduceAdd, Nat.reduceLeDiff, Nat.reduceSub, reduceIte, Nat.reduceEqDiff, Nat.reduceLT, reduceCtorEq, Nat.reduceMul, Nat.reduceBEq, Int.reduceEq, if_true, if_false, eq_self, ne_eq, env_bT, T_74, P22_eq, Var.pv_eq, P72_eq, GEnv.pv_eq, Ask.pv_eq, Qid.pv_eq, Dir.pv_eq]
  refine AW.seq ?_
  refine AW.seq ?_
  refine AW.reg hS [(1, .pv (.str name2)), (2, .ref 0 0), (5, .pv (.int .i64 0))] [.var [.pv (.int .i64 g1.id_), .pv (.int .i64 g1.next_), .pv (.slice (List.map Var.pv g1.vars_))]] ?_ ?_
  · simp -implicitDefEqProofs only [RUNS, qindex, Nat.reduceAdd, Nat.reduceLeDiff, Nat.reduceSub, reduceIte, Nat.reduceEqDiff, Nat.reduceLT, reduceCtorEq, Nat.reduceMul, Nat.reduceBEq, Int.reduceEq, if_true, if_false, eq_self, ne_eq, env_bT, P22_eq, Var.pv_eq, P72_eq, GEnv.pv_eq, Ask.pv_eq, Qid.pv_eq, Dir.pv_eq]
  refine AW.block ?_
  refine AW.weak (Weak.slots (L := [(1, .pv (.str name2)), (2, .ref 0 0), (5, .pv (.int .i64 0))]) ⟨rfl, rfl, rfl, trivial⟩) ?_
  refine AW.loopI (α := Nat × Int) (fun (_, i4) => ⟨sl [(1, .pv (.str name2)), (2, .ref 0 0), (5, .pv (.int .i64 i4))], 22, [.var [.pv (.int .i64 g1.id_), .pv (.int .i64 g1.next_), .pv (.slice (List.map Var.pv g1.vars_))]]⟩) (fun x => iter (F41_b1 g1 name2) x.1 x.2 = some r3) (fun x => x.1) (BIG, 0) h ?_
  clear h
  intro ⟨n13, i4⟩ h
  replace h := iter_some h; obtain ⟨m7, rfl, h⟩ := h
  rw [F41_b1] at h
  try dsimp only at h
  show AW _ _ _ _ ⟨sl [(1, .pv (.str name2)), (2, .ref 0 0), (5, .pv (.int .i64 i4))], 22, [.var [.pv (.int .i64 g1.id_), .pv (.int .i64 g1.next_), .pv (.slice (List.map Var.pv g1.vars_))]]⟩
  refine AW.seq ?_
  refine AW.seq ?_
  refine AW.reg hS [(1, .pv (.str name2)), (2, .ref 0 0), (5, .pv (.int .i64 i4)), (10, .pv (.bool (decide (i4 < (g1.vars_.length : Int)))))] [.var [.pv (.int .i64 g1.id_), .pv (.int .i64 g1.next_), .pv (.slice (List.map Var.pv g1.vars_))]] ?_ ?_
  · simp -implicitDefEqProofs only [RUNS, qindex, Nat.reduceAdd, Nat.reduceLeDiff, Nat.reduceSub, reduceIte, Nat.reduceEqDiff, Nat.reduceLT, reduceCtorEq, Nat.reduceMul, Nat.reduceBEq, Int.reduceEq, if_true, if_false, eq_self, ne_eq, env_bT, T_3, T_72, T_74, T_76, P22_eq, Var.pv_eq, P72_eq, GEnv.pv_eq, Ask.pv_eq, Qid.pv_eq, Dir.pv_eq, eqT_3]
  refine AW.cond (b := decide (i4 < (g1.vars_.length : Int))) rfl (fun hb8 => ?_) (fun hb8 => ?_)
  · replace h := bif_t hb8 h
    refine AW.skip ?_
    refine AW.seq ?_
    refine AW.block ?_
    refine AW.seq ?_
    replace h := Option.bind_eq_some_iff.1 h; obtain ⟨u9, q10, h⟩ := h
    have f11 := lidx_f q10
    refine AW.reg hS [(1, .pv (.str name2)), (2, .ref 0 0), (5, .pv (.int .i64 i4)), (20, .pv (.bool (decide (u9.name_ = name2))))] [.var [.pv (.int .i64 g1.id_), .pv (.int .i64 g1.next_), .pv (.slice (List.map Var.pv g1.vars_))]] ?_ ?_
    · simp -implicitDefEqProofs only [RUNS, qindex, Nat.reduceAdd, Nat.reduceLeDiff, Nat.reduceSub, reduceIte, Nat.reduceEqDiff, Nat.reduceLT, reduceCtorEq, Nat.reduceMul, Nat.reduceBEq, Int.reduceEq, if_true, if_false, eq_self, ne_eq, env_bT, T_9, T_72, T_74, T_76, P22_eq, Var.pv_eq, P72_eq, GEnv.pv_eq, Ask.pv_eq, Qid.pv_eq, Dir.pv_eq, f11.1, f11.2.1, eqT_9]
    refine AW.cond (b := decide (u9.name_ = name2)) rfl (fun hb12 => ?_) (fun hb12 => ?_)
    · replace h := bif_t hb12 h
      refine AW.seq ?_
      refine AW.reg hS [(4, .pv (.int .i64 i4))] [.var [.pv (.int .i64 g1.id_), .pv (.int .i64 g1.next_), .pv (.slice (List.map Var.pv g1.vars_))]] ?_ ?_
      · simp -implicitDefEqProofs only [RUNS, qindex, Nat.reduceAdd, Nat.reduceLeDiff, Nat.reduceSub, reduceIte, Nat.reduceEqDiff, Nat.reduceLT, reduceCtorEq, Nat.reduceMul, Nat.reduceBEq, Int.reduceEq, if_true, if_false, eq_self, ne_eq, env_bT, P22_eq, Var.pv_eq, P72_eq, GEnv.pv_eq, Ask.pv_eq, Qid.pv_eq, Dir.pv_eq]
      refine AW.ret ?_
      cases h
      show finish _ _ _ _ _ = _
      first | rfl | (simp [finish, resOf, renArgs, toPV, selObjs, sl])
    · replace h := bif_f hb12 h
      refine AW.skip ?_
      refine AW.reg hS [(1, .pv (.str name2)), (2, .ref 0 0), (5, .pv (.int .i64 (IntKind.wrap .i64 (i4 + 1))))] [.var [.pv (.int .i64 g1.id_), .pv (.int .i64 g1.next_), .pv (.slice (List.map Var.pv g1.vars_))]] ?_ ?_
      · simp -implicitDefEqProofs only [RUNS, qindex, Nat.reduceAdd, Nat.reduceLeDiff, Nat.reduceSub, reduceIte, Nat.reduceEqDiff, Nat.reduceLT, reduceCtorEq, Nat.reduceMul, Nat.reduceBEq, Int.reduceEq, if_true, if_false, eq_self, ne_eq, env_bT, T_3, P22_eq, Var.pv_eq, P72_eq, GEnv.pv_eq, Ask.pv_eq, Qid.pv_eq, Dir.pv_eq, eqT_3]
      exact ⟨(m7, IntKind.wrap .i64 (i4 + 1)), h, (Weak.norm (m := 1) (Nat.le_of_ble_eq_true rfl) ⟨rfl, rfl, rfl, trivial⟩ rfl rfl rfl), Nat.lt_succ_self _⟩
  · replace h := bif_f hb8 h
    refine AW.exit ?_
    refine AW.seq ?_
    refine AW.reg hS [(4, .pv (.int .i64 (-1)))] [.var [.pv (.int .i64 g1.id_), .pv (.int .i64 g1.next_), .pv (.slice (List.map Var.pv g1.vars_))]] ?_ ?_
    · simp -implicitDefEqProofs only [RUNS, qindex, Nat.reduceAdd, Nat.reduceLeDiff, Nat.reduceSub, reduceIte, Nat.reduceEqDiff, Nat.reduceLT, reduceCtorEq, Nat.reduceMul, Nat.reduceBEq, Int.reduceEq, if_true, if_false, eq_self, ne_eq, env_bT, P22_eq, Var.pv_eq, P72_eq, GEnv.pv_eq, Ask.pv_eq, Qid.pv_eq, Dir.pv_eq]
    refine AW.ret ?_
    cases h
    show finish _ _ _ _ _ = _
    first | rfl | (simp [finish, resOf, renArgs, toPV, selObjs, sl])

set_option maxHeartbeats 4000000 in
theorem g_F16 {O : Orc} (hS : Sound env O) (hpf : O.pf = pfn) (c_F10 : C_F10 O) (c_F40 : C_F40 O) (c_F41 : C_F41 O) (l1 : List GEnv) (r2 : Bool) (h : F16 l1 = some r2) : Good env 16 [.pv (.slice (List.map GEnv.pv l1))] [] [.pv (.bool r2)] [] := by
  have pf_10 : O.pf 10 = true := by rw [hpf]; rfl
  have pf_40 : O.pf 40 = true := by rw [hpf]; rfl
  have pf_41 : O.pf 41 = true := by rw [hpf]; rfl
  refine Good.start (fn := Tryd.f16) (N := 123) fn_16 rfl rfl (by simp) [] _ rfl rfl ?_
  rw [F16] at h
  refine AW.seq ?_
  refine AW.reg hS [(0, .pv (.slice (List.map GEnv.pv l1)))] [] ?_ ?_
  · simp -implicitDefEqProofs only [RUNS, qindex, Nat.reduceAdd, Nat.reduceLeDiff, Nat.reduceSub, reduceIte, Nat.reduceEqDiff, Nat.reduceLT, reduceCtorEq, Nat.reduceMul, Nat.reduceBEq, Int.reduceEq, if_true, if_false, eq_self, ne_eq, env_bT, P22_eq, Var.pv_eq, P72_eq, GEnv.pv_eq, Ask.pv_eq, Qid.pv_eq, Dir.pv_eq]
  refine AW.seq ?_
  refine AW.seq ?_
  refine AW.reg hS [(0, .pv (.slice (List.map GEnv.pv l1))), (11, .pv (.bool (decide (64 < (l1.length : Int)))))] [] ?_ ?_
  · simp -implicitDefEqProofs only [RUNS, qindex, Nat.reduceAdd, Nat.reduceLeDiff, Nat.reduceSub, reduceIte, Nat.reduceEqDiff, Nat.reduceLT, reduceCtorEq, Nat.reduceMul, Nat.reduceBEq, Int.reduceEq, if_true, if_false, eq_self, ne_eq, env_bT, T_3, T_32, T_74, P22_eq, Var.pv_eq, P72_eq, GEnv.pv_eq, Ask.pv_eq, Qid.pv_eq, Dir.pv_eq, eqT_3]
  refine AW.cond (b := decide (64 < (l1.length : Int))) rfl (fun hb3 => ?_) (fun hb3 => ?_)
  · replace h := bif_t hb3 h
    refine AW.seq ?_
    refine AW.reg hS [(2, .pv (.bool false))] [] ?_ ?_
    · simp -implicitDefEqProofs only [RUNS, qindex, Nat.reduceAdd, Nat.reduceLeDiff, Nat.reduceSub, reduceIte, Nat.reduceEqDiff, Nat.reduceLT, reduceCtorEq, Nat.reduceMul, Nat.reduceBEq, Int.reduceEq, if_true, if_false, eq_self, ne_eq, env_bT, P22_eq, Var.pv_eq, P72_eq, GEnv.pv_eq, Ask.pv_eq, Qid.pv_eq, Dir.pv_eq]
    refine AW.ret ?_
    cases h
    show finish _ _ _ _ _ = _
    first | rfl | (simp [finish, resOf, renArgs, toPV, selObjs, sl])
  · replace h := bif_f hb3 h
    refine AW.skip ?_
    refine AW.seq ?_
    refine AW.seq ?_
    refine AW.reg hS [(0, .pv (.slice (List.map GEnv.pv l1))), (3, .pv (.int .i64 0))] [] ?_ ?_
    · simp -implicitDefEqProofs only [RUNS, qindex, Nat.reduceAdd, Nat.reduceLeDiff, Nat.reduceSub, reduceIte, Nat.reduceEqDiff, Nat.reduceLT, reduceCtorEq, Nat.reduceMul, Nat.reduceBEq, Int.reduceEq, if_true, if_false, eq_self, ne_eq, env_bT, P22_eq, Var.pv_eq, P72_eq, GEnv.pv_eq, Ask.pv_eq, Qid.pv_eq, Dir.pv_eq]
    refine AW.block ?_
    refine AW.weak (Weak.slots (L := [(0, .pv (.slice (List.map GEnv.pv l1))), (3, .pv (.int .i64 0))]) ⟨rfl, rfl, trivial⟩) ?_
    refine AW.loopI (α := Nat × Int) (fun (_, i4) => ⟨sl [(0, .pv (.slice (List.map GEnv.pv l1))), (3, .pv (.int .i64 i4))], 123, []⟩) (fun x => iter (F16_b2 l1) x.1 x.2 = some r2) (fun x => x.1) (BIG, 0) h ?_
    clear h
    intro ⟨n39, i4⟩ h
    replace h := iter_some h; obtain ⟨m7, rfl, h⟩ := h
    rw [F16_b2] at h
    try dsimp only at h
    show AW _ _ _ _ ⟨sl [(0, .pv (.slice (List.map GEnv.pv l1))), (3, .pv (.int .i64 i4))], 123, []⟩
    refine AW.seq ?_
    refine AW.seq ?_
    refine AW.reg hS [(0, .pv (.slice (List.map GEnv.pv l1))), (3, .pv (.int .i64 i4)), (15, .pv (.bool (decide (i4 < (l1.length : Int)))))] [] ?_ ?_
    · simp -implicitDefEqProofs only [RUNS, qindex, Nat.reduceAdd, Nat.reduceLeDiff, Nat.reduceSub, reduceIte, Nat.reduceEqDiff, Nat.reduceLT, reduceCtorEq, Nat.reduceMul, Nat.reduceBEq, Int.reduceEq, if_true, if_false, eq_self, ne_eq, env_bT, T_3, T_32, T_74, P22_eq, Var.pv_eq, P72_eq, GEnv.pv_eq, Ask.pv_eq, Qid.pv_eq, Dir.pv_eq, eqT_3]
    refine AW.cond (b := decide (i4 < (l1.length : Int))) rfl (fun hb8 => ?_) (fun hb8 => ?_)
    · replace h := bif_t hb8 h
      refine AW.skip ?_
      refine AW.seq ?_
      refine AW.block ?_
      refine AW.seq ?_
      replace h := Option.bind_eq_some_iff.1 h; obtain ⟨u9, q10, h⟩ := h
      have f11 := lidx_f q10
      refine AW.reg hS [(0, .pv (.slice (List.map GEnv.pv l1))), (3, .pv (.int .i64 i4)), (4, .ref 0 0)] [.var [.pv (.int .i64 u9.id_), .pv (.int .i64 u9.next_), .pv (.slice (List.map Var.pv u9.vars_))]] ?_ ?_
      · simp -implicitDefEqProofs only [RUNS, qindex, Nat.reduceAdd, Nat.reduceLeDiff, Nat.reduceSub, reduceIte, Nat.reduceEqDiff, Nat.reduceLT, reduceCtorEq, Nat.reduceMul, Nat.reduceBEq, Int.reduceEq, if_true, if_false, eq_self, ne_eq, env_bT, T_32, T_74, P22_eq, Var.pv_eq, P72_eq, GEnv.pv_eq, Ask.pv_eq, Qid.pv_eq, Dir.pv_eq, f11.1, f11.2.1]
      refine AW.seq ?_
      refine AW.seq ?_
      replace h := Option.bind_eq_some_iff.1 h; obtain ⟨u12, q13, h⟩ := h
      have f14 := lidx_g (guardO_t q13)
      refine AW.dreg mixed hS (hpf ▸ (by kernel_rfl : orderOK pfn _ = true)) [(0, .pv (.slice (List.map GEnv.pv l1))), (3, .pv (.int .i64 i4)), (4, .ref 0 0), (60, .pv (.bool (((((decide (u9.id_ < 1) || decide (1099511627776 < u9.id_)) || (decide (0 < i4) && decide (u9.id_ ≤ u12.id_))) || decide (u9.next_ < 2)) || decide (1048576 < u9.next_)) || decide (64 < (u9.vars_.length : Int)))))] [.var [.pv (.int .i64 u9.id_), .pv (.int .i64 u9.next_), .pv (.slice (List.map Var.pv u9.vars_))]] ?_ ?_
      · clear h
        (simp -implicitDefEqProofs only [RUNS, qindex, Nat.reduceAdd, Nat.reduceLeDiff, Nat.reduceSub, reduceIte, Nat.reduceEqDiff, Nat.reduceLT, reduceCtorEq, Nat.reduceMul, Nat.reduceBEq, Int.reduceEq, if_true, if_false, eq_self, ne_eq, env_bT, T_3, T_32, T_72, T_74, T_76, P22_eq, Var.pv_eq, P72_eq, GEnv.pv_eq, Ask.pv_eq, Qid.pv_eq, Dir.pv_eq, eqT_3, f14.1, f14.2.1]); repeat' (split <;> rename_i hb <;> (try simp only [HBS, ge_iff_le, gt_iff_lt] at hb) <;> simp -implicitDefEqProofs only [RUNS, qindex, Nat.reduceAdd, Nat.reduceLeDiff, Nat.reduceSub, reduceIte, Nat.reduceEqDiff, Nat.reduceLT, reduceCtorEq, Nat.reduceMul, Nat.reduceBEq, Int.reduceEq, if_true, if_false, eq_self, ne_eq, env_bT, T_3, T_32, T_72, T_74, T_76, P22_eq, Var.pv_eq, P72_eq, GEnv.pv_eq, Ask.pv_eq, Qid.pv_eq, Dir.pv_eq, eqT_3, f14.1, f14.2.1, *, decide_true, decide_false, Decidable.not_not, not_false_eq_true, not_true_eq_false])
        all_goals (first | (simp only [BOOLS]; done) | (simp [*]; done) | ((try simp only [CLOS, beq_iff_eq, bne_iff_ne, ne_eq] at *) <;> omega) | (simp_all; done) | (simp_all <;> omega))
      refine AW.cond (b := (((((decide (u9.id_ < 1) || decide (1099511627776 < u9.id_)) || (decide (0 < i4) && decide (u9.id_ ≤ u12.id_))) || decide (u9.next_ < 2)) || decide (1048576 < u9.next_)) || decide (64 < (u9.vars_.length : Int)))) rfl (fun hb15 => ?_) (fun hb15 => ?_)
      · replace h := bif_t hb15 h
        refine AW.seq ?_
        refine AW.reg hS [(2, .pv (.bool false))] [.var [.pv (.int .i64 u9.id_), .pv (.int .i64 u9.next_), .pv (.slice (List.map Var.pv u9.vars_))]] ?_ ?_
        · simp -implicitDefEqProofs only [RUNS, qindex, Nat.reduceAdd, Nat.reduceLeDiff, Nat.reduceSub, reduceIte, Nat.reduceEqDiff, Nat.reduceLT, reduceCtorEq, Nat.reduceMul, Nat.reduceBEq, Int.reduceEq, if_true, if_false, eq_self, ne_eq, env_bT, P22_eq, Var.pv_eq, P72_eq, GEnv.pv_eq, Ask.pv_eq, Qid.pv_eq, Dir.pv_eq]
        refine AW.ret ?_
        cases h
        show finish _ _ _ _ _ = _
        first | rfl | (simp [finish, resOf, renArgs, toPV, selObjs, sl])
      · replace h := bif_f hb15 h
        refine AW.skip ?_
        refine AW.seq ?_
        refine AW.reg hS [(0, .pv (.slice (List.map GEnv.pv l1))), (3, .pv (.int .i64 i4)), (4, .ref 0 0), (5, .pv (.int .i64 0))] [.var [.pv (.int .i64 u9.id_), .pv (.int .i64 u9.next_), .pv (.slice (List.map Var.pv u9.vars_))]] ?_ ?_
        · simp -implicitDefEqProofs only [RUNS, qindex, Nat.reduceAdd, Nat.reduceLeDiff, Nat.reduceSub, reduceIte, Nat.reduceEqDiff, Nat.reduceLT, reduceCtorEq, Nat.reduceMul, Nat.reduceBEq, Int.reduceEq, if_true, if_false, eq_self, ne_eq, env_bT, P22_eq, Var.pv_eq, P72_eq, GEnv.pv_eq, Ask.pv_eq, Qid.pv_eq, Dir.pv_eq]
        refine AW.block ?_
        refine AW.weak (Weak.slots (L := [(0, .pv (.slice (List.map GEnv.pv l1))), (3, .pv (.int .i64 i4)), (4, .ref 0 0), (5, .pv (.int .i64 0))]) ⟨rfl, rfl, rfl, rfl, trivial⟩) ?_
        refine AW.loopI (α := Nat × Int) (fun (_, k16) => ⟨sl [(0, .pv (.slice (List.map GEnv.pv l1))), (3, .pv (.int .i64 i4)), (4, .ref 0 0), (5, .pv (.int .i64 k16))], 123, [.var [.pv (.int .i64 u9.id_), .pv (.int .i64 u9.next_), .pv (.slice (List.map Var.pv u9.vars_))]]⟩) (fun x => iter (F16_b3 u9 (iter (F16_b2 l1) m7) i4) x.1 x.2 = some r2) (fun x => x.1) (BIG, 0) h ?_
        clear h
        intro ⟨n38, k16⟩ h
        replace h := iter_some h; obtain ⟨m19, rfl, h⟩ := h
        rw [F16_b3] at h
        try dsimp only at h
        show AW _ _ _ _ ⟨sl [(0, .pv (.slice (List.map GEnv.pv l1))), (3, .pv (.int .i64 i4)), (4, .ref 0 0), (5, .pv (.int .i64 k16))], 123, [.var [.pv (.int .i64 u9.id_), .pv (.int .i64 u9.next_), .pv (.slice (List.map Var.pv u9.vars_))]]⟩
        refine AW.seq ?_
        refine AW.seq ?_
        refine AW.reg hS [(0, .pv (.slice (List.map GEnv.pv l1))), (3, .pv (.int .i64 i4)), (4, .ref 0 0), (5, .pv (.int .i64 k16)), (65, .pv (.bool (decide (k16 < (u9.vars_.length : Int)))))] [.var [.pv (.int .i64 u9.id_), .pv (.int .i64 u9.next_), .pv (.slice (List.map Var.pv u9.vars_))]] ?_ ?_
        · simp -implicitDefEqProofs only [RUNS, qindex, Nat.reduceAdd, Nat.reduceLeDiff, Nat.reduceSub, reduceIte, Nat.reduceEqDiff, Nat.reduceLT, reduceCtorEq, Nat.reduceMul, Nat.reduceBEq, Int.reduceEq, if_true, if_false, eq_self, ne_eq, env_bT, T_3, T_72, T_74, T_76, P22_eq, Var.pv_eq, P72_eq, GEnv.pv_eq, Ask.pv_eq, Qid.pv_eq, Dir.pv_eq, eqT_3]
        refine AW.cond (b := decide (k16 < (u9.vars_.length : Int))) rfl (fun hb20 => ?_) (fun hb20 => ?_)
        · replace h := bif_t hb20 h
          refine AW.skip ?_
          refine AW.seq ?_
          refine AW.block ?_
          refine AW.seq ?_
          replace h := Option.bind_eq_some_iff.1 h; obtain ⟨u21, q22, h⟩ := h
          have f23 := lidx_f q22
          refine AW.reg hS [(0, .pv (.slice (List.map GEnv.pv l1))), (3, .pv (.int .i64 i4)), (4, .ref 0 0), (5, .pv (.int .i64 k16)), (6, .ref 1 0)] [.var [.pv (.int .i64 u9.id_), .pv (.int .i64 u9.next_), .pv (.slice (List.map Var.pv u9.vars_))], .var [.pv (.int .i64 u21.id_), .pv (.str u21.name_), .pv (.slice (List.map PV.str u21.values_))]] ?_ ?_
          · simp -implicitDefEqProofs only [RUNS, qindex, Nat.reduceAdd, Nat.reduceLeDiff, Nat.reduceSub, reduceIte, Nat.reduceEqDiff, Nat.reduceLT, reduceCtorEq, Nat.reduceMul, Nat.reduceBEq, Int.reduceEq, if_true, if_false, eq_self, ne_eq, env_bT, T_72, T_74, T_76, P22_eq, Var.pv_eq, P72_eq, GEnv.pv_eq, Ask.pv_eq, Qid.pv_eq, Dir.pv_eq, f23.1, f23.2.1]
          refine AW.seq ?_
          replace h := Option.bind_eq_some_iff.1 h; obtain ⟨⟨r24, r25⟩, q26, h⟩ := h
          dsimp only at h
          have f27 := c_F10 u21.values_ r24 r25 q26
          try dsimp only at f27
          refine AW.reg hS [(0, .pv (.slice (List.map GEnv.pv l1))), (3, .pv (.int .i64 i4)), (4, .ref 0 0), (5, .pv (.int .i64 k16)), (6, .ref 1 0), (8, .pv (.int .i64 r25))] [.var [.pv (.int .i64 u9.id_), .pv (.int .i64 u9.next_), .pv (.slice (List.map Var.pv u9.vars_))], .var [.pv (.int .i64 u21.id_), .pv (.str u21.name_), .pv (.slice (List.map PV.str u21.values_))]] ?_ ?_
          · simp -implicitDefEqProofs only [RUNS, qindex, Nat.reduceAdd, Nat.reduceLeDiff, Nat.reduceSub, reduceIte, Nat.reduceEqDiff, Nat.reduceLT, reduceCtorEq, Nat.reduceMul, Nat.reduceBEq, Int.reduceEq, if_true, if_false, eq_self, ne_eq, env_bT, T_9, T_22, T_76, P22_eq, Var.pv_eq, P72_eq, GEnv.pv_eq, Ask.pv_eq, Qid.pv_eq, Dir.pv_eq, pf_10, f27]
          refine AW.seq ?_
          replace h := Option.bind_eq_some_iff.1 h; obtain ⟨r28, q29, h⟩ := h
          have f30 := fun hg => c_F40 u21.name_ r28 (guardO_t q29 hg)
          try dsimp only at f30
          replace h := Option.bind_eq_some_iff.1 h; obtain ⟨r31, q32, h⟩ := h
          have f33 := fun hg => c_F41 u9 u21.name_ r31 (guardO_t q32 hg)
          try dsimp only at f33
          replace h := Option.bind_eq_some_iff.1 h; obtain ⟨u34, q35, h⟩ := h
          have f36 := lidx_g (guardO_t q35)
          refine AW.dreg mixed hS (hpf ▸ (by kernel_rfl : orderOK pfn _ = true)) [(0, .pv (.slice (List.map GEnv.pv l1))), (3, .pv (.int .i64 i4)), (4, .ref 0 0), (5, .pv (.int .i64 k16)), (122, .pv (.bool (((((!decide (r25 = 0) || !r28) || !decide (r31 = k16)) || decide (u21.id_ < 2)) || decide (u9.next_ ≤ u21.id_)) || (decide (0 < k16) && decide (u21.id_ ≤ u34.id_)))))] [.var [.pv (.int .i64 u9.id_), .pv (.int .i64 u9.next_), .pv (.slice (List.map Var.pv u9.vars_))], .var [.pv (.int .i64 u21.id_), .pv (.str u21.name_), .pv (.slice (List.map PV.str u21.values_))]] ?_ ?_
          · clear h
            (simp -implicitDefEqProofs only [RUNS, qindex, Nat.reduceAdd, Nat.reduceLeDiff, Nat.reduceSub, reduceIte, Nat.reduceEqDiff, Nat.reduceLT, reduceCtorEq, Nat.reduceMul, Nat.reduceBEq, Int.reduceEq, if_true, if_false, eq_self, ne_eq, env_bT, T_3, T_9, T_25, T_72, T_74, T_76, P22_eq, Var.pv_eq, P72_eq, GEnv.pv_eq, Ask.pv_eq, Qid.pv_eq, Dir.pv_eq, eqT_25, pf_40, f30, pf_41, f33, eqT_3, f36.1, f36.2.1]); repeat' (split <;> rename_i hb <;> (try simp only [HBS, ge_iff_le, gt_iff_lt] at hb) <;> simp -implicitDefEqProofs only [RUNS, qindex, Nat.reduceAdd, Nat.reduceLeDiff, Nat.reduceSub, reduceIte, Nat.reduceEqDiff, Nat.reduceLT, reduceCtorEq, Nat.reduceMul, Nat.reduceBEq, Int.reduceEq, if_true, if_false, eq_self, ne_eq, env_bT, T_3, T_9, T_25, T_72, T_74, T_76, P22_eq, Var.pv_eq, P72_eq, GEnv.pv_eq, Ask.pv_eq, Qid.pv_eq, Dir.pv_eq, eqT_25, pf_40, f30, pf_41, f33, eqT_3, f36.1, f36.2.1, *, decide_true, decide_false, Decidable.not_not, not_false_eq_true, not_true_eq_false])
            all_goals (first | (simp only [BOOLS]; done) | (simp [*]; done) | ((try simp only [CLOS, beq_iff_eq, bne_iff_ne, ne_eq] at *) <;> omega) | (simp_all; done) | (simp_all <;> omega))
          refine AW.cond (b := (((((!decide (r25 = 0) || !r28) || !decide (r31 = k16)) || decide (u21.id_ < 2)) || decide (u9.next_ ≤ u21.id_)) || (decide (0 < k16) && decide (u21.id_ ≤ u34.id_)))) rfl (fun hb37 => ?_) (fun hb37 => ?_)
          · replace h := bif_t hb37 h
            refine AW.seq ?_
            refine AW.reg hS [(2, .pv (.bool false))] [.var [.pv (.int .i64 u9.id_), .pv (.int .i64 u9.next_), .pv (.slice (List.map Var.pv u9.vars_))], .var [.pv (.int .i64 u21.id_), .pv (.str u21.name_), .pv (.slice (List.map PV.str u21.values_))]] ?_ ?_
            · simp -implicitDefEqProofs only [RUNS, qindex, Nat.reduceAdd, Nat.reduceLeDiff, Nat.reduceSub, reduceIte, Nat.reduceEqDiff, Nat.reduceLT, reduceCtorEq, Nat.reduceMul, Nat.reduceBEq, Int.reduceEq, if_true, if_false, eq_self, ne_eq, env_bT, P22_eq, Var.pv_eq, P72_eq, GEnv.pv_eq, Ask.pv_eq, Qid.pv_eq, Dir.pv_eq]
            refine AW.ret ?_
            cases h
            show finish _ _ _ _ _ = _
            first | rfl | (simp [finish, resOf, renArgs, toPV, selObjs, sl])
          · replace h := bif_f hb37 h
            refine AW.skip ?_
            refine AW.reg hS [(0, .pv (.slice (List.map GEnv.pv l1))), (3, .pv (.int .i64 i4)), (4, .ref 0 0), (5, .pv (.int .i64 (IntKind.wrap .i64 (k16 + 1))))] [.var [.pv (.int .i64 u9.id_), .pv (.int .i64 u9.next_), .pv (.slice (List.map Var.pv u9.vars_))], .var [.pv (.int .i64 u21.id_), .pv (.str u21.name_), .pv (.slice (List.map PV.str u21.values_))]] ?_ ?_
            · simp -implicitDefEqProofs only [RUNS, qindex, Nat.reduceAdd, Nat.reduceLeDiff, Nat.reduceSub, reduceIte, Nat.reduceEqDiff, Nat.reduceLT, reduceCtorEq, Nat.reduceMul, Nat.reduceBEq, Int.reduceEq, if_true, if_false, eq_self, ne_eq, env_bT, T_3, P22_eq, Var.pv_eq, P72_eq, GEnv.pv_eq, Ask.pv_eq, Qid.pv_eq, Dir.pv_eq, eqT_3]
            exact ⟨(m19, IntKind.wrap .i64 (k16 + 1)), h, (Weak.norm (m := 1) (Nat.le_of_ble_eq_true rfl) ⟨rfl, rfl, rfl, rfl, trivial⟩ rfl rfl rfl), Nat.lt_succ_self _⟩
        · replace h := bif_f hb20 h
          refine AW.exit ?_
          refine AW.reg hS [(0, .pv (.slice (List.map GEnv.pv l1))), (3, .pv (.int .i64 (IntKind.wrap .i64 (i4 + 1))))] [.var [.pv (.int .i64 u9.id_), .pv (.int .i64 u9.next_), .pv (.slice (List.map Var.pv u9.vars_))]] ?_ ?_
          · simp -implicitDefEqProofs only [RUNS, qindex, Nat.reduceAdd, Nat.reduceLeDiff, Nat.reduceSub, reduceIte, Nat.reduceEqDiff, Nat.reduceLT, reduceCtorEq, Nat.reduceMul, Nat.reduceBEq, Int.reduceEq, if_true, if_false, eq_self, ne_eq, env_bT, T_3, P22_eq, Var.pv_eq, P72_eq, GEnv.pv_eq, Ask.pv_eq, Qid.pv_eq, Dir.pv_eq, eqT_3]
          exact ⟨(m7, IntKind.wrap .i64 (i4 + 1)), h, (Weak.norm (m := 0) (Nat.le_of_ble_eq_true rfl) ⟨rfl, rfl, trivial⟩ rfl rfl rfl), Nat.lt_succ_self _⟩
    · replace h := bif_f hb8 h
      refine AW.exit ?_
      refine AW.seq ?_
      refine AW.reg hS [(2, .pv (.bool true))] [] ?_ ?_
      · simp -implicitDefEqProofs only [RUNS, qindex, Nat.reduceAdd, Nat.reduceLeDiff, Nat.reduceSub, reduceIte, Nat.reduceEqDiff, Nat.reduceLT, reduceCtorEq, Nat.reduceMul, Nat.reduceBEq, Int.reduceEq, if_true, if_false, eq_self, ne_eq, env_bT, P22_eq, Var.pv_eq, P72_eq, GEnv.pv_eq, Ask.pv_eq, Qid.pv_eq, Dir.pv_eq]
      refine AW.ret ?_
      cases h
      show finish _ _ _ _ _ = _
      first | rfl | (simp [finish, resOf, renArgs, toPV, selObjs, sl])

set_option maxHeartbeats 4000000 in
theorem g_F51 {O : Orc} (hS : Sound env O) (hpf : O.pf = pfn) (l1 : List GEnv) (group2 : Int) (r3 : Int) (h : F51 l1 group2 = some r3) : Good env 51 [.pv (.slice (List.map GEnv.pv l1)), .pv (.int .i64 group2)] [] [.pv (.int .i64 r3)] [] := by
  refine Good.start (fn := Tryd.f51) (N := 20) fn_51 rfl rfl (by simp) [] _ rfl rfl ?_
  rw [F51] at h
  refine AW.seq ?_
  refine AW.reg hS [(0, .pv (.slice (List.map GEnv.pv l1))), (1, .pv (.int .i64 group2))] [] ?_ ?_
  · simp -implicitDefEqProofs only [RUNS, qindex, Nat.reduceAdd, Nat.reduceLeDiff, Nat.reduceSub, reduceIte, Nat.reduceEqDiff, Nat.reduceLT, reduceCtorEq, Nat.reduceMul, Nat.reduceBEq, Int.reduceEq, if_true, if_false, eq_self, ne_eq, env_bT, P22_eq, Var.pv_eq, P72_eq, GEnv.pv_eq, Ask.pv_eq, Qid.pv_eq, Dir.pv_eq]
  refine AW.seq ?_
  refine AW.seq ?_
  refine AW.reg hS [(0, .pv (.slice (List.map GEnv.pv l1))), (1, .pv (.int .i64 group2)), (5, .pv (.int .i64 0))] [] ?_ ?_
  · simp -implicitDefEqProofs only [RUNS, qindex, Nat.reduceAdd, Nat.reduceLeDiff, Nat.reduceSub, reduceIte, Nat.reduceEqDiff, Nat.reduceLT, reduceCtorEq, Nat.reduceMul, Nat.reduceBEq, Int.reduceEq, if_true, if_false, eq_self, ne_eq, env_bT, P22_eq, Var.pv_eq, P72_eq, GEnv.pv_eq, Ask.pv_eq, Qid.pv_eq, Dir.pv_eq]
  refine AW.block ?_
  refine AW.weak (Weak.slots (L := [(0, .pv (.slice (List.map GEnv.pv l1))), (1, .pv (.int .i64 group2)), (5, .pv (.int .i64 0))]) ⟨rfl, rfl, rfl, trivial⟩) ?_
  refine AW.loopI (α := Nat × Int) (fun (_, i4) => ⟨sl [(0, .pv (.slice (List.map GEnv.pv l1))), (1, .pv (.int .i64 group2)), (5, .pv (.int .i64 i4))], 20, []⟩) (fun x => iter (F51_b1 l1 group2) x.1 x.2 = some r3) (fun x => x.1) (BIG, 0) h ?_
  clear h
  intro ⟨n13, i4⟩ h
  replace h := iter_some h; obtain ⟨m7, rfl, h⟩ := h
  rw [F51_b1] at h
  try dsimp only at h
  show AW _ _ _ _ ⟨sl [(0, .pv (.slice (List.map GEnv.pv l1))), (1, .pv (.int .i64 group2)), (5, .pv (.int .i64 i4))], 20, []⟩
  refine AW.seq ?_
  refine AW.seq ?_
  refine AW.reg hS [(0, .pv (.slice (List.map GEnv.pv l1))), (1, .pv (.int .i64 group2)), (5, .pv (.int .i64 i4)), (9, .pv (.bool (decide (i4 < (l1.length : Int)))))] [] ?_ ?_
  · simp -implicitDefEqProofs only [RUNS, qindex, Nat.reduceAdd, Nat.reduceLeDiff, Nat.reduceSub, reduceIte, Nat.reduceEqDiff, Nat.reduceLT, reduceCtorEq, Nat.reduceMul, Nat.reduceBEq, Int.reduceEq, if_true, if_false, eq_self, ne_eq, env_bT, T_3, T_32, T_74, P22_eq, Var.pv_eq, P72_eq, GEnv.pv_eq, Ask.pv_eq, Qid.pv_eq, Dir.pv_eq, eqT_3]
  refine AW.cond (b := decide (i4 < (l1.length : Int))) rfl (fun hb8 => ?_) (fun hb8 => ?_)
  · replace h := bif_t hb8 h
    refine AW.skip ?_
    refine AW.seq ?_
    refine AW.block ?_
    refine AW.seq ?_
    replace h := Option.bind_eq_some_iff.1 h; obtain ⟨u9, q10, h⟩ := h
    have f11 := lidx_f q10
    refine AW.reg hS [(0, .pv (.slice (List.map GEnv.pv l1))), (1, .pv (.int .i64 group2)), (5, .pv (.int .i64 i4)), (18, .pv (.bool (decide (u9.id_ = group2))))] [] ?_ ?_
    · simp -implicitDefEqProofs only [RUNS, qindex, Nat.reduceAdd, Nat.reduceLeDiff, Nat.reduceSub, reduceIte, Nat.reduceEqDiff, Nat.reduceLT, reduceCtorEq, Nat.reduceMul, Nat.reduceBEq, Int.reduceEq, if_true, if_false, eq_self, ne_eq, env_bT, T_3, T_32, T_74, P22_eq, Var.pv_eq, P72_eq, GEnv.pv_eq, Ask.pv_eq, Qid.pv_eq, Dir.pv_eq, f11.1, f11.2.1, eqT_3]
    refine AW.cond (b := decide (u9.id_ = group2)) rfl (fun hb12 => ?_) (fun hb12 => ?_)
    · replace h := bif_t hb12 h
      refine AW.seq ?_
      refine AW.reg hS [(4, .pv (.int .i64 i4))] [] ?_ ?_
      · simp -implicitDefEqProofs only [RUNS, qindex, Nat.reduceAdd, Nat.reduceLeDiff, Nat.reduceSub, reduceIte, Nat.reduceEqDiff, Nat.reduceLT, reduceCtorEq, Nat.reduceMul, Nat.reduceBEq, Int.reduceEq, if_true, if_false, eq_self, ne_eq, env_bT, P22_eq, Var.pv_eq, P72_eq, GEnv.pv_eq, Ask.pv_eq, Qid.pv_eq, Dir.pv_eq]
      refine AW.ret ?_
      cases h
      show finish _ _ _ _ _ = _
      first | rfl | (simp [finish, resOf, renArgs, toPV, selObjs, sl])
    · replace h := bif_f hb12 h
      refine AW.skip ?_
      refine AW.reg hS [(0, .pv (.slice (List.map GEnv.pv l1))), (1, .pv (.int .i64 group2)), (5, .pv (.int .i64 (IntKind.wrap .i64 (i4 + 1))))] [] ?_ ?_
      · simp -implicitDefEqProofs only [RUNS, qindex, Nat.reduceAdd, Nat.reduceLeDiff, Nat.reduceSub, reduceIte, Nat.reduceEqDiff, Nat.reduceLT, reduceCtorEq, Nat.reduceMul, Nat.reduceBEq, Int.reduceEq, if_true, if_false, eq_self, ne_eq, env_bT, T_3, P22_eq, Var.pv_eq, P72_eq, GEnv.pv_eq, Ask.pv_eq, Qid.pv_eq, Dir.pv_eq, eqT_3]
      exact ⟨(m7, IntKind.wrap .i64 (i4 + 1)), h, (Weak.norm (m := 0) (Nat.le_of_ble_eq_true rfl) ⟨rfl, rfl, rfl, trivial⟩ rfl rfl rfl), Nat.lt_succ_self _⟩
  · replace h := bif_f hb8 h
    refine AW.exit ?_
    refine AW.seq ?_
    refine AW.reg hS [(4, .pv (.int .i64 (-1)))] [] ?_ ?_
    · simp -implicitDefEqProofs only [RUNS, qindex, Nat.reduceAdd, Nat.reduceLeDiff, Nat.reduceSub, reduceIte, Nat.reduceEqDiff, Nat.reduceLT, reduceCtorEq, Nat.reduceMul, Nat.reduceBEq, Int.reduceEq, if_true, if_false, eq_self, ne_eq, env_bT, P22_eq, Var.pv_eq, P72_eq, GEnv.pv_eq, Ask.pv_eq, Qid.pv_eq, Dir.pv_eq]
    refine AW.ret ?_
    cases h
    show finish _ _ _ _ _ = _
    first | rfl | (simp [finish, resOf, renArgs, toPV, selObjs, sl])

set_option maxHeartbeats 4000000 in
theorem g_F52 {O : Orc} (hS : Sound env O) (hpf : O.pf = pfn) (l1 : List Str) (r2 : List Str) (h : F52 l1 = some r2) : Good env 52 [.pv (.slice (List.map PV.str l1))] [] [.pv (.slice (List.map PV.str r2))] [] := by
  refine Good.start (fn := Tryd.f52) (N := 6) fn_52 rfl rfl (by simp) [] _ rfl rfl ?_
  rw [F52] at h
  refine AW.seq ?_
  refine AW.reg hS [(0, .pv (.slice (List.map PV.str l1)))] [] ?_ ?_
  · simp -implicitDefEqProofs only [RUNS, qindex, Nat.reduceAdd, Nat.reduceLeDiff, Nat.reduceSub, reduceIte, Nat.reduceEqDiff, Nat.reduceLT, reduceCtorEq, Nat.reduceMul, Nat.reduceBEq, Int.reduceEq, if_true, if_false, eq_self, ne_eq, env_bT, P22_eq, Var.pv_eq, P72_eq, GEnv.pv_eq, Ask.pv_eq, Qid.pv_eq, Dir.pv_eq]
  refine AW.seq ?_
  replace h := Option.bind_eq_some_iff.1 h; obtain ⟨out3, q4, h⟩ := h
  have f5 := appO_f q4
  try simp only [List.length_cons, List.length_nil, List.length_replicate, Nat.zero_add, Nat.reduceAdd, Nat.reduceLeDiff, Nat.add_zero, Nat.reduceMul] at f5
  refine AW.reg hS [(2, .vec 0 (List.length out3))] [.row 9 1 (List.map PV.str out3) false] ?_ ?_
  · simp -implicitDefEqProofs only [RUNS, qindex, Nat.reduceAdd, Nat.reduceLeDiff, Nat.reduceSub, reduceIte, Nat.reduceEqDiff, Nat.reduceLT, reduceCtorEq, Nat.reduceMul, Nat.reduceBEq, Int.reduceEq, if_true, if_false, eq_self, ne_eq, env_bT, T_9, T_22, P22_eq, Var.pv_eq, P72_eq, GEnv.pv_eq, Ask.pv_eq, Qid.pv_eq, Dir.pv_eq, ownT_22, f5.1, f5.2, str_all] <;> (try simp only [List.length_take, List.length_drop, List.length_map])
  clear f5
  refine AW.weak (Weak.freeze 0 rfl) ?_
  refine AW.weak (σ' := ⟨sl [(2, .vec 0 (List.length out3))], 6, [.row 9 1 (List.map PV.str out3) true]⟩) (Weak.slots ⟨rfl, trivial⟩) ?_
  refine AW.ret ?_
  cases h
  show finish _ _ _ _ _ = _
  first | rfl | (simp [finish, resOf, renArgs, toPV, selObjs, sl])

set_option maxHeartbeats 4000000 in
theorem g_F21 {O : Orc} (hS : Sound env O) (hpf : O.pf = pfn) (c_F51 : C_F51 O) (c_F41 : C_F41 O) (c_F52 : C_F52 O) (l1 : List GEnv) (group2 : Int) (name3 : Str) (r4 : List Str) (r5 : Bool) (h : F21 l1 group2 name3 = some (r4, r5)) : Good env 21 [.pv (.slice (List.map GEnv.pv l1)), .pv (.int .i64 group2), .pv (.str name3)] [] [.pv (.slice (List.map PV.str r4)), .pv (.bool r5)] [] := by
  have pf_41 : O.pf 41 = true := by rw [hpf]; rfl
  have pf_51 : O.pf 51 = true := by rw [hpf]; rfl
  have pf_52 : O.pf 52 = true := by rw [hpf]; rfl
  refine Good.start (fn := Tryd.f21) (N := 38) fn_21 rfl rfl (by simp) [] _ rfl rfl ?_
  rw [F21] at h
  refine AW.seq ?_
  refine AW.reg hS [(0, .pv (.slice (List.map GEnv.pv l1))), (1, .pv (.int .i64 group2)), (2, .pv (.str name3))] [] ?_ ?_
  · simp -implicitDefEqProofs only [RUNS, qindex, Nat.reduceAdd, Nat.reduceLeDiff, Nat.reduceSub, reduceIte, Nat.reduceEqDiff, Nat.reduceLT, reduceCtorEq, Nat.reduceMul, Nat.reduceBEq, Int.reduceEq, if_true, if_false, eq_self, ne_eq, env_bT, P22_eq, Var.pv_eq, P72_eq, GEnv.pv_eq, Ask.pv_eq, Qid.pv_eq, Dir.pv_eq]
  refine AW.seq ?_
  replace h := Option.bind_eq_some_iff.1 h; obtain ⟨r6, q7, h⟩ := h
  have f8 := c_F51 l1 group2 r6 q7
  try dsimp only at f8
  refine AW.reg hS [(0, .pv (.slice (List.map GEnv.pv l1))), (2, .pv (.str name3)), (8, .pv (.int .i64 r6))] [] ?_ ?_
  · simp -implicitDefEqProofs only [RUNS, qindex, Nat.reduceAdd, Nat.reduceLeDiff, Nat.reduceSub, reduceIte, Nat.reduceEqDiff, Nat.reduceLT, reduceCtorEq, Nat.reduceMul, Nat.reduceBEq, Int.reduceEq, if_true, if_false, eq_self, ne_eq, env_bT, T_3, T_32, T_74, P22_eq, Var.pv_eq, P72_eq, GEnv.pv_eq, Ask.pv_eq, Qid.pv_eq, Dir.pv_eq, pf_51, f8]
  refine AW.seq ?_
  refine AW.seq ?_
  replace h := Option.bind_eq_some_iff.1 h; obtain ⟨u9, q10, h⟩ := h
  have f11 := lidx_g (guardO_t q10)
  replace h := Option.bind_eq_some_iff.1 h; obtain ⟨r12, q13, h⟩ := h
  have f14 := fun hg => c_F41 u9 name3 r12 (guardO_t q13 hg)
  try dsimp only at f14
  refine AW.reg hS [(0, .pv (.slice (List.map GEnv.pv l1))), (2, .pv (.str name3)), (8, .pv (.int .i64 r6)), (22, .pv (.bool (decide (r6 < 0) || decide (r12 < 0))))] [] ?_ ?_
  · clear h
    (simp -implicitDefEqProofs only [RUNS, qindex, Nat.reduceAdd, Nat.reduceLeDiff, Nat.reduceSub, reduceIte, Nat.reduceEqDiff, Nat.reduceLT, reduceCtorEq, Nat.reduceMul, Nat.reduceBEq, Int.reduceEq, if_true, if_false, eq_self, ne_eq, env_bT, T_3, T_9, T_32, T_74, P22_eq, Var.pv_eq, P72_eq, GEnv.pv_eq, Ask.pv_eq, Qid.pv_eq, Dir.pv_eq, eqT_3, f11.1, f11.2.1, pf_41, f14]); repeat' (split <;> rename_i hb <;> (try simp only [HBS, ge_iff_le, gt_iff_lt] at hb) <;> simp -implicitDefEqProofs only [RUNS, qindex, Nat.reduceAdd, Nat.reduceLeDiff, Nat.reduceSub, reduceIte, Nat.reduceEqDiff, Nat.reduceLT, reduceCtorEq, Nat.reduceMul, Nat.reduceBEq, Int.reduceEq, if_true, if_false, eq_self, ne_eq, env_bT, T_3, T_9, T_32, T_74, P22_eq, Var.pv_eq, P72_eq, GEnv.pv_eq, Ask.pv_eq, Qid.pv_eq, Dir.pv_eq, eqT_3, f11.1, f11.2.1, pf_41, f14, *, decide_true, decide_false, Decidable.not_not, not_false_eq_true, not_true_eq_false])
    all_goals (first | (simp only [BOOLS]; done) | (simp [*]; done) | ((try simp only [CLOS, beq_iff_eq, bne_iff_ne, ne_eq] at *) <;> omega) | (simp_all; done) | (simp_all <;> omega))
  refine AW.cond (b := (decide (r6 < 0) || decide (r12 < 0))) rfl (fun hb15 => ?_) (fun hb15 => ?_)
  · replace h := bif_t hb15 h
    refine AW.seq ?_
    refine AW.reg hS [(6, .nils), (7, .pv (.bool false))] [] ?_ ?_
    · simp -implicitDefEqProofs only [RUNS, qindex, Nat.reduceAdd, Nat.reduceLeDiff, Nat.reduceSub, reduceIte, Nat.reduceEqDiff, Nat.reduceLT, reduceCtorEq, Nat.reduceMul, Nat.reduceBEq, Int.reduceEq, if_true, if_false, eq_self, ne_eq, env_bT, P22_eq, Var.pv_eq, P72_eq, GEnv.pv_eq, Ask.pv_eq, Qid.pv_eq, Dir.pv_eq]
    refine AW.ret ?_
    cases h
    show finish _ _ _ _ _ = _
    first | rfl | (simp [finish, resOf, renArgs, toPV, selObjs, sl])
  · replace h := bif_f hb15 h
    refine AW.skip ?_
    refine AW.seq ?_
    replace h := Option.bind_eq_some_iff.1 h; obtain ⟨u16, q17, h⟩ := h
    have f18 := lidx_f q17
    replace h := Option.bind_eq_some_iff.1 h; obtain ⟨r19, q20, h⟩ := h
    have f21 := c_F41 u16 name3 r19 q20
    try dsimp only at f21
    replace h := Option.bind_eq_some_iff.1 h; obtain ⟨u22, q23, h⟩ := h
    have f24 := lidx_f q23
    replace h := Option.bind_eq_some_iff.1 h; obtain ⟨r25, q26, h⟩ := h
    have f27 := c_F52 u22.values_ r25 q26
    try dsimp only at f27
    refine AW.dreg mixed hS (hpf ▸ (by kernel_rfl : orderOK pfn _ = true)) [(6, .pv (.slice (List.map PV.str r25))), (7, .pv (.bool true))] [] ?_ ?_
    · simp -implicitDefEqProofs only [RUNS, qindex, Nat.reduceAdd, Nat.reduceLeDiff, Nat.reduceSub, reduceIte, Nat.reduceEqDiff, Nat.reduceLT, reduceCtorEq, Nat.reduceMul, Nat.reduceBEq, Int.reduceEq, if_true, if_false, eq_self, ne_eq, env_bT, T_9, T_22, T_32, T_72, T_74, T_76, P22_eq, Var.pv_eq, P72_eq, GEnv.pv_eq, Ask.pv_eq, Qid.pv_eq, Dir.pv_eq, f18.1, f18.2.1, pf_41, f21, f24.1, f24.2.1, pf_52, f27]
    refine AW.ret ?_
    cases h
    show finish _ _ _ _ _ = _
    first | rfl | (simp [finish, resOf, renArgs, toPV, selObjs, sl])

set_option maxHeartbeats 4000000 in
theorem g_F54 {O : Orc} (hS : Sound env O) (hpf : O.pf = pfn) (c_F51 : C_F51 O) (l1 : List GEnv) (group2 : Int) (id3 : Int) (r4 : Int) (r5 : Int) (r6 : Bool) (h : F54 l1 group2 id3 = some (r4, r5, r6)) : Good env 54 [.pv (.slice (List.map GEnv.pv l1)), .pv (.int .i64 group2), .pv (.int .i64 id3)] [] [.pv (.int .i64 r4), .pv (.int .i64 r5), .pv (.bool r6)] [] := by
  have pf_51 : O.pf 51 = true := by rw [hpf]; rfl
  refine Good.start (fn := Tryd.f54) (N := 42) fn_54 rfl rfl (by simp) [] _ rfl rfl ?_
  rw [F54] at h
  refine AW.seq ?_
  refine AW.reg hS [(0, .pv (.slice (List.map GEnv.pv l1))), (1, .pv (.int .i64 group2)), (2, .pv (.int .i64 id3))] [] ?_ ?_
  · simp -implicitDefEqProofs only [RUNS, qindex, Nat.reduceAdd, Nat.reduceLeDiff, Nat.reduceSub, reduceIte, Nat.reduceEqDiff, Nat.reduceLT, reduceCtorEq, Nat.reduceMul, Nat.reduceBEq, Int.reduceEq, if_true, if_false, eq_self, ne_eq, env_bT, P22_eq, Var.pv_eq, P72_eq, GEnv.pv_eq, Ask.pv_eq, Qid.pv_eq, Dir.pv_eq]
  refine AW.seq ?_
  replace h := Option.bind_eq_some_iff.1 h; obtain ⟨r7, q8, h⟩ := h
  have f9 := c_F51 l1 group2 r7 q8
  try dsimp only at f9
  refine AW.reg hS [(0, .pv (.slice (List.map GEnv.pv l1))), (2, .pv (.int .i64 id3)), (9, .pv (.int .i64 r7))] [] ?_ ?_
  · simp -implicitDefEqProofs only [RUNS, qindex, Nat.reduceAdd, Nat.reduceLeDiff, Nat.reduceSub, reduceIte, Nat.reduceEqDiff, Nat.reduceLT, reduceCtorEq, Nat.reduceMul, Nat.reduceBEq, Int.reduceEq, if_true, if_false, eq_self, ne_eq, env_bT, T_3, T_32, T_74, P22_eq, Var.pv_eq, P72_eq, GEnv.pv_eq, Ask.pv_eq, Qid.pv_eq, Dir.pv_eq, pf_51, f9]
  refine AW.seq ?_
  refine AW.seq ?_
  refine AW.reg hS [(0, .pv (.slice (List.map GEnv.pv l1))), (2, .pv (.int .i64 id3)), (9, .pv (.int .i64 r7)), (15, .pv (.bool (decide (r7 < 0))))] [] ?_ ?_
  · simp -implicitDefEqProofs only [RUNS, qindex, Nat.reduceAdd, Nat.reduceLeDiff, Nat.reduceSub, reduceIte, Nat.reduceEqDiff, Nat.reduceLT, reduceCtorEq, Nat.reduceMul, Nat.reduceBEq, Int.reduceEq, if_true, if_false, eq_self, ne_eq, env_bT, T_3, P22_eq, Var.pv_eq, P72_eq, GEnv.pv_eq, Ask.pv_eq, Qid.pv_eq, Dir.pv_eq, eqT_3]
  refine AW.cond (b := decide (r7 < 0)) rfl (fun hb10 => ?_) (fun hb10 => ?_)
  · replace h := bif_t hb10 h
    refine AW.seq ?_
    refine AW.reg hS [(6, .pv (.int .i64 0)), (7, .pv (.int .i64 0)), (8, .pv (.bool false))] [] ?_ ?_
    · simp -implicitDefEqProofs only [RUNS, qindex, Nat.reduceAdd, Nat.reduceLeDiff, Nat.reduceSub, reduceIte, Nat.reduceEqDiff, Nat.reduceLT, reduceCtorEq, Nat.reduceMul, Nat.reduceBEq, Int.reduceEq, if_true, if_false, eq_self, ne_eq, env_bT, P22_eq, Var.pv_eq, P72_eq, GEnv.pv_eq, Ask.pv_eq, Qid.pv_eq, Dir.pv_eq]
    refine AW.ret ?_
    cases h
    show finish _ _ _ _ _ = _
    first | rfl | (simp [finish, resOf, renArgs, toPV, selObjs, sl])
  · replace h := bif_f hb10 h
    refine AW.skip ?_
    refine AW.seq ?_
    refine AW.seq ?_
    refine AW.reg hS [(0, .pv (.slice (List.map GEnv.pv l1))), (2, .pv (.int .i64 id3)), (9, .pv (.int .i64 r7)), (17, .pv (.bool (decide (id3 = 1))))] [] ?_ ?_
    · simp -implicitDefEqProofs only [RUNS, qindex, Nat.reduceAdd, Nat.reduceLeDiff, Nat.reduceSub, reduceIte, Nat.reduceEqDiff, Nat.reduceLT, reduceCtorEq, Nat.reduceMul, Nat.reduceBEq, Int.reduceEq, if_true, if_false, eq_self, ne_eq, env_bT, T_3, P22_eq, Var.pv_eq, P72_eq, GEnv.pv_eq, Ask.pv_eq, Qid.pv_eq, Dir.pv_eq, eqT_3]
    refine AW.cond (b := decide (id3 = 1)) rfl (fun hb11 => ?_) (fun hb11 => ?_)
    · replace h := bif_t hb11 h
      refine AW.seq ?_
      refine AW.reg hS [(6, .pv (.int .i64 r7)), (7, .pv (.int .i64 (-1))), (8, .pv (.bool true))] [] ?_ ?_
      · simp -implicitDefEqProofs only [RUNS, qindex, Nat.reduceAdd, Nat.reduceLeDiff, Nat.reduceSub, reduceIte, Nat.reduceEqDiff, Nat.reduceLT, reduceCtorEq, Nat.reduceMul, Nat.reduceBEq, Int.reduceEq, if_true, if_false, eq_self, ne_eq, env_bT, P22_eq, Var.pv_eq, P72_eq, GEnv.pv_eq, Ask.pv_eq, Qid.pv_eq, Dir.pv_eq]
      refine AW.ret ?_
      cases h
      show finish _ _ _ _ _ = _
      first | rfl | (simp [finish, resOf, renArgs, toPV, selObjs, sl])
    · replace h := bif_f hb11 h
      refine AW.skip ?_
      refine AW.seq ?_
      refine AW.seq ?_
      refine AW.reg hS [(0, .pv (.slice (List.map GEnv.pv l1))), (2, .pv (.int .i64 id3)), (9, .pv (.int .i64 r7)), (10, .pv (.int .i64 0))] [] ?_ ?_
      · simp -implicitDefEqProofs only [RUNS, qindex, Nat.reduceAdd, Nat.reduceLeDiff, Nat.reduceSub, reduceIte, Nat.reduceEqDiff, Nat.reduceLT, reduceCtorEq, Nat.reduceMul, Nat.reduceBEq, Int.reduceEq, if_true, if_false, eq_self, ne_eq, env_bT, P22_eq, Var.pv_eq, P72_eq, GEnv.pv_eq, Ask.pv_eq, Qid.pv_eq, Dir.pv_eq]
      refine AW.block ?_
      refine AW.weak (Weak.slots (L := [(0, .pv (.slice (List.map GEnv.pv l1))), (2, .pv (.int .i64 id3)), (9, .pv (.int .i64 r7)), (10, .pv (.int .i64 0))]) ⟨rfl, rfl, rfl, rfl, trivial⟩) ?_
      refine AW.loopI (α := Nat × Int) (fun (_, k12) => ⟨sl [(0, .pv (.slice (List.map GEnv.pv l1))), (2, .pv (.int .i64 id3)), (9, .pv (.int .i64 r7)), (10, .pv (.int .i64 k12))], 42, []⟩) (fun x => iter (F54_b1 l1 r7 id3) x.1 x.2 = some (r4, r5, r6)) (fun x => x.1) (BIG, 0) h ?_
      clear h
      intro ⟨n24, k12⟩ h
      replace h := iter_some h; obtain ⟨m15, rfl, h⟩ := h
      rw [F54_b1] at h
      try dsimp only at h
      show AW _ _ _ _ ⟨sl [(0, .pv (.slice (List.map GEnv.pv l1))), (2, .pv (.int .i64 id3)), (9, .pv (.int .i64 r7)), (10, .pv (.int .i64 k12))], 42, []⟩
      refine AW.seq ?_
      refine AW.seq ?_
      replace h := Option.bind_eq_some_iff.1 h; obtain ⟨u16, q17, h⟩ := h
      have f18 := lidx_f q17
      refine AW.reg hS [(0, .pv (.slice (List.map GEnv.pv l1))), (2, .pv (.int .i64 id3)), (9, .pv (.int .i64 r7)), (10, .pv (.int .i64 k12)), (26, .pv (.bool (decide (k12 < (u16.vars_.length : Int)))))] [] ?_ ?_
      · simp -implicitDefEqProofs only [RUNS, qindex, Nat.reduceAdd, Nat.reduceLeDiff, Nat.reduceSub, reduceIte, Nat.reduceEqDiff, Nat.reduceLT, reduceCtorEq, Nat.reduceMul, Nat.reduceBEq, Int.reduceEq, if_true, if_false, eq_self, ne_eq, env_bT, T_3, T_32, T_72, T_74, T_76, P22_eq, Var.pv_eq, P72_eq, GEnv.pv_eq, Ask.pv_eq, Qid.pv_eq, Dir.pv_eq, f18.1, f18.2.1, eqT_3]
      refine AW.cond (b := decide (k12 < (u16.vars_.length : Int))) rfl (fun hb19 => ?_) (fun hb19 => ?_)
      · replace h := bif_t hb19 h
        refine AW.skip ?_
        refine AW.seq ?_
        refine AW.block ?_
        refine AW.seq ?_
        replace h := Option.bind_eq_some_iff.1 h; obtain ⟨u20, q21, h⟩ := h
        have f22 := lidx_f q21
        refine AW.reg hS [(0, .pv (.slice (List.map GEnv.pv l1))), (2, .pv (.int .i64 id3)), (9, .pv (.int .i64 r7)), (10, .pv (.int .i64 k12)), (39, .pv (.bool (decide (u20.id_ = id3))))] [] ?_ ?_
        · simp -implicitDefEqProofs only [RUNS, qindex, Nat.reduceAdd, Nat.reduceLeDiff, Nat.reduceSub, reduceIte, Nat.reduceEqDiff, Nat.reduceLT, reduceCtorEq, Nat.reduceMul, Nat.reduceBEq, Int.reduceEq, if_true, if_false, eq_self, ne_eq, env_bT, T_3, T_32, T_72, T_74, T_76, P22_eq, Var.pv_eq, P72_eq, GEnv.pv_eq, Ask.pv_eq, Qid.pv_eq, Dir.pv_eq, f18.1, f18.2.1, f22.1, f22.2.1, eqT_3]
        refine AW.cond (b := decide (u20.id_ = id3)) rfl (fun hb23 => ?_) (fun hb23 => ?_)
        · replace h := bif_t hb23 h
          refine AW.seq ?_
          refine AW.reg hS [(6, .pv (.int .i64 r7)), (7, .pv (.int .i64 k12)), (8, .pv (.bool true))] [] ?_ ?_
          · simp -implicitDefEqProofs only [RUNS, qindex, Nat.reduceAdd, Nat.reduceLeDiff, Nat.reduceSub, reduceIte, Nat.reduceEqDiff, Nat.reduceLT, reduceCtorEq, Nat.reduceMul, Nat.reduceBEq, Int.reduceEq, if_true, if_false, eq_self, ne_eq, env_bT, P22_eq, Var.pv_eq, P72_eq, GEnv.pv_eq, Ask.pv_eq, Qid.pv_eq, Dir.pv_eq]
          refine AW.ret ?_
          cases h
          show finish _ _ _ _ _ = _
          first | rfl | (simp [finish, resOf, renArgs, toPV, selObjs, sl])
        · replace h := bif_f hb23 h
          refine AW.skip ?_
          refine AW.reg hS [(0, .pv (.slice (List.map GEnv.pv l1))), (2, .pv (.int .i64 id3)), (9, .pv (.int .i64 r7)), (10, .pv (.int .i64 (IntKind.wrap .i64 (k12 + 1))))] [] ?_ ?_
          · simp -implicitDefEqProofs only [RUNS, qindex, Nat.reduceAdd, Nat.reduceLeDiff, Nat.reduceSub, reduceIte, Nat.reduceEqDiff, Nat.reduceLT, reduceCtorEq, Nat.reduceMul, Nat.reduceBEq, Int.reduceEq, if_true, if_false, eq_self, ne_eq, env_bT, T_3, P22_eq, Var.pv_eq, P72_eq, GEnv.pv_eq, Ask.pv_eq, Qid.pv_eq, Dir.pv_eq, eqT_3]
          exact ⟨(m15, IntKind.wrap .i64 (k12 + 1)), h, (Weak.norm (m := 0) (Nat.le_of_ble_eq_true rfl) ⟨rfl, rfl, rfl, rfl, trivial⟩ rfl rfl rfl), Nat.lt_succ_self _⟩
      · replace h := bif_f hb19 h
        refine AW.exit ?_
        refine AW.seq ?_
        refine AW.reg hS [(6, .pv (.int .i64 0)), (7, .pv (.int .i64 0)), (8, .pv (.bool false))] [] ?_ ?_
        · simp -implicitDefEqProofs only [RUNS, qindex, Nat.reduceAdd, Nat.reduceLeDiff, Nat.reduceSub, reduceIte, Nat.reduceEqDiff, Nat.reduceLT, reduceCtorEq, Nat.reduceMul, Nat.reduceBEq, Int.reduceEq, if_true, if_false, eq_self, ne_eq, env_bT, P22_eq, Var.pv_eq, P72_eq, GEnv.pv_eq, Ask.pv_eq, Qid.pv_eq, Dir.pv_eq]
        refine AW.ret ?_
        cases h
        show finish _ _ _ _ _ = _
        first | rfl | (simp [finish, resOf, renArgs, toPV, selObjs, sl])

set_option maxHeartbeats 4000000 in
theorem g_F23 {O : Orc} (hS : Sound env O) (hpf : O.pf = pfn) (c_F54 : C_F54 O) (c_F41 : C_F41 O) (l1 : List GEnv) (group2 : Int) (id3 : Int) (name4 : Str) (r5 : Int) (r6 : Int) (h : F23 l1 group2 id3 name4 = some (r5, r6)) : Good env 23 [.pv (.slice (List.map GEnv.pv l1)), .pv (.int .i64 group2), .pv (.int .i64 id3), .pv (.str name4)] [] [.pv (.int .i64 r5), .pv (.int .i64 r6)] [] := by
  have pf_41 : O.pf 41 = true := by rw [hpf]; rfl
  have pf_54 : O.pf 54 = true := by rw [hpf]; rfl
  refine Good.start (fn := Tryd.f23) (N := 45) fn_23 rfl rfl (by simp) [] _ rfl rfl ?_
  rw [F23] at h
  refine AW.seq ?_
  refine AW.reg hS [(0, .pv (.slice (List.map GEnv.pv l1))), (1, .pv (.int .i64 group2)), (2, .pv (.int .i64 id3)), (3, .pv (.str name4))] [] ?_ ?_
  · simp -implicitDefEqProofs only [RUNS, qindex, Nat.reduceAdd, Nat.reduceLeDiff, Nat.reduceSub, reduceIte, Nat.reduceEqDiff, Nat.reduceLT, reduceCtorEq, Nat.reduceMul, Nat.reduceBEq, Int.reduceEq, if_true, if_false, eq_self, ne_eq, env_bT, P22_eq, Var.pv_eq, P72_eq, GEnv.pv_eq, Ask.pv_eq, Qid.pv_eq, Dir.pv_eq]
  refine AW.seq ?_
  replace h := Option.bind_eq_some_iff.1 h; obtain ⟨⟨r7, r8, r9⟩, q10, h⟩ := h
  dsimp only at h
  have f11 := c_F54 l1 group2 id3 r7 r8 r9 q10
  try dsimp only at f11
  refine AW.reg hS [(0, .pv (.slice (List.map GEnv.pv l1))), (3, .pv (.str name4)), (10, .pv (.int .i64 r7)), (11, .pv (.int .i64 r8)), (12, .pv (.bool r9))] [] ?_ ?_
  · simp -implicitDefEqProofs only [RUNS, qindex, Nat.reduceAdd, Nat.reduceLeDiff, Nat.reduceSub, reduceIte, Nat.reduceEqDiff, Nat.reduceLT, reduceCtorEq, Nat.reduceMul, Nat.reduceBEq, Int.reduceEq, if_true, if_false, eq_self, ne_eq, env_bT, T_3, T_32, T_74, P22_eq, Var.pv_eq, P72_eq, GEnv.pv_eq, Ask.pv_eq, Qid.pv_eq, Dir.pv_eq, pf_54, f11]
  refine AW.seq ?_
  refine AW.seq ?_
  refine AW.reg hS [(0, .pv (.slice (List.map GEnv.pv l1))), (3, .pv (.str name4)), (10, .pv (.int .i64 r7)), (11, .pv (.int .i64 r8)), (23, .pv (.bool (!r9)))] [] ?_ ?_
  · simp -implicitDefEqProofs only [RUNS, qindex, Nat.reduceAdd, Nat.reduceLeDiff, Nat.reduceSub, reduceIte, Nat.reduceEqDiff, Nat.reduceLT, reduceCtorEq, Nat.reduceMul, Nat.reduceBEq, Int.reduceEq, if_true, if_false, eq_self, ne_eq, env_bT, P22_eq, Var.pv_eq, P72_eq, GEnv.pv_eq, Ask.pv_eq, Qid.pv_eq, Dir.pv_eq]
  refine AW.cond (b := !r9) rfl (fun hb12 => ?_) (fun hb12 => ?_)
  · replace h := bif_t hb12 h
    refine AW.seq ?_
    refine AW.reg hS [(8, .pv (.int .i64 0)), (9, .pv (.int .i64 8))] [] ?_ ?_
    · simp -implicitDefEqProofs only [RUNS, qindex, Nat.reduceAdd, Nat.reduceLeDiff, Nat.reduceSub, reduceIte, Nat.reduceEqDiff, Nat.reduceLT, reduceCtorEq, Nat.reduceMul, Nat.reduceBEq, Int.reduceEq, if_true, if_false, eq_self, ne_eq, env_bT, P22_eq, Var.pv_eq, P72_eq, GEnv.pv_eq, Ask.pv_eq, Qid.pv_eq, Dir.pv_eq]
    refine AW.ret ?_
    cases h
    show finish _ _ _ _ _ = _
    first | rfl | (simp [finish, resOf, renArgs, toPV, selObjs, sl])
  · replace h := bif_f hb12 h
    refine AW.skip ?_
    refine AW.seq ?_
    refine AW.seq ?_
    refine AW.reg hS [(0, .pv (.slice (List.map GEnv.pv l1))), (3, .pv (.str name4)), (10, .pv (.int .i64 r7)), (25, .pv (.bool (decide (0 ≤ r8))))] [] ?_ ?_
    · simp -implicitDefEqProofs only [RUNS, qindex, Nat.reduceAdd, Nat.reduceLeDiff, Nat.reduceSub, reduceIte, Nat.reduceEqDiff, Nat.reduceLT, reduceCtorEq, Nat.reduceMul, Nat.reduceBEq, Int.reduceEq, if_true, if_false, eq_self, ne_eq, env_bT, T_3, P22_eq, Var.pv_eq, P72_eq, GEnv.pv_eq, Ask.pv_eq, Qid.pv_eq, Dir.pv_eq, eqT_3]
    refine AW.cond (b := decide (0 ≤ r8)) rfl (fun hb13 => ?_) (fun hb13 => ?_)
    · replace h := bif_t hb13 h
      refine AW.seq ?_
      refine AW.reg hS [(8, .pv (.int .i64 0)), (9, .pv (.int .i64 9))] [] ?_ ?_
      · simp -implicitDefEqProofs only [RUNS, qindex, Nat.reduceAdd, Nat.reduceLeDiff, Nat.reduceSub, reduceIte, Nat.reduceEqDiff, Nat.reduceLT, reduceCtorEq, Nat.reduceMul, Nat.reduceBEq, Int.reduceEq, if_true, if_false, eq_self, ne_eq, env_bT, P22_eq, Var.pv_eq, P72_eq, GEnv.pv_eq, Ask.pv_eq, Qid.pv_eq, Dir.pv_eq]
      refine AW.ret ?_
      cases h
      show finish _ _ _ _ _ = _
      first | rfl | (simp [finish, resOf, renArgs, toPV, selObjs, sl])
    · replace h := bif_f hb13 h
      refine AW.skip ?_
      refine AW.seq ?_
      refine AW.seq ?_
      refine AW.reg hS [(0, .pv (.slice (List.map GEnv.pv l1))), (3, .pv (.str name4)), (10, .pv (.int .i64 r7)), (27, .pv (.bool (decide (name4 = [46, 46]))))] [] ?_ ?_
      · simp -implicitDefEqProofs only [RUNS, qindex, Nat.reduceAdd, Nat.reduceLeDiff, Nat.reduceSub, reduceIte, Nat.reduceEqDiff, Nat.reduceLT, reduceCtorEq, Nat.reduceMul, Nat.reduceBEq, Int.reduceEq, if_true, if_false, eq_self, ne_eq, env_bT, T_9, P22_eq, Var.pv_eq, P72_eq, GEnv.pv_eq, Ask.pv_eq, Qid.pv_eq, Dir.pv_eq, eqT_9]
      refine AW.cond (b := decide (name4 = [46, 46])) rfl (fun hb14 => ?_) (fun hb14 => ?_)
      · replace h := bif_t hb14 h
        refine AW.seq ?_
        refine AW.reg hS [(8, .pv (.int .i64 1)), (9, .pv (.int .i64 0))] [] ?_ ?_
        · simp -implicitDefEqProofs only [RUNS, qindex, Nat.reduceAdd, Nat.reduceLeDiff, Nat.reduceSub, reduceIte, Nat.reduceEqDiff, Nat.reduceLT, reduceCtorEq, Nat.reduceMul, Nat.reduceBEq, Int.reduceEq, if_true, if_false, eq_self, ne_eq, env_bT, P22_eq, Var.pv_eq, P72_eq, GEnv.pv_eq, Ask.pv_eq, Qid.pv_eq, Dir.pv_eq]
        refine AW.ret ?_
        cases h
        show finish _ _ _ _ _ = _
        first | rfl | (simp [finish, resOf, renArgs, toPV, selObjs, sl])
      · replace h := bif_f hb14 h
        refine AW.skip ?_
        refine AW.seq ?_
        replace h := Option.bind_eq_some_iff.1 h; obtain ⟨u15, q16, h⟩ := h
        have f17 := lidx_f q16
        replace h := Option.bind_eq_some_iff.1 h; obtain ⟨r18, q19, h⟩ := h
        have f20 := c_F41 u15 name4 r18 q19
        try dsimp only at f20
        refine AW.reg hS [(0, .pv (.slice (List.map GEnv.pv l1))), (10, .pv (.int .i64 r7)), (13, .pv (.int .i64 r18))] [] ?_ ?_
        · simp -implicitDefEqProofs only [RUNS, qindex, Nat.reduceAdd, Nat.reduceLeDiff, Nat.reduceSub, reduceIte, Nat.reduceEqDiff, Nat.reduceLT, reduceCtorEq, Nat.reduceMul, Nat.reduceBEq, Int.reduceEq, if_true, if_false, eq_self, ne_eq, env_bT, T_9, T_32, T_74, P22_eq, Var.pv_eq, P72_eq, GEnv.pv_eq, Ask.pv_eq, Qid.pv_eq, Dir.pv_eq, f17.1, f17.2.1, pf_41, f20]
        refine AW.seq ?_
        refine AW.seq ?_
        refine AW.reg hS [(0, .pv (.slice (List.map GEnv.pv l1))), (10, .pv (.int .i64 r7)), (13, .pv (.int .i64 r18)), (35, .pv (.bool (decide (r18 < 0))))] [] ?_ ?_
        · simp -implicitDefEqProofs only [RUNS, qindex, Nat.reduceAdd, Nat.reduceLeDiff, Nat.reduceSub, reduceIte, Nat.reduceEqDiff, Nat.reduceLT, reduceCtorEq, Nat.reduceMul, Nat.reduceBEq, Int.reduceEq, if_true, if_false, eq_self, ne_eq, env_bT, T_3, P22_eq, Var.pv_eq, P72_eq, GEnv.pv_eq, Ask.pv_eq, Qid.pv_eq, Dir.pv_eq, eqT_3]
        refine AW.cond (b := decide (r18 < 0)) rfl (fun hb21 => ?_) (fun hb21 => ?_)
        · replace h := bif_t hb21 h
          refine AW.seq ?_
          refine AW.reg hS [(8, .pv (.int .i64 0)), (9, .pv (.int .i64 8))] [] ?_ ?_
          · simp -implicitDefEqProofs only [RUNS, qindex, Nat.reduceAdd, Nat.reduceLeDiff, Nat.reduceSub, reduceIte, Nat.reduceEqDiff, Nat.reduceLT, reduceCtorEq, Nat.reduceMul, Nat.reduceBEq, Int.reduceEq, if_true, if_false, eq_self, ne_eq, env_bT, P22_eq, Var.pv_eq, P72_eq, GEnv.pv_eq, Ask.pv_eq, Qid.pv_eq, Dir.pv_eq]
          refine AW.ret ?_
          cases h
          show finish _ _ _ _ _ = _
          first | rfl | (simp [finish, resOf, renArgs, toPV, selObjs, sl])
        · replace h := bif_f hb21 h
          refine AW.skip ?_
          refine AW.seq ?_
          replace h := Option.bind_eq_some_iff.1 h; obtain ⟨u22, q23, h⟩ := h
          have f24 := lidx_f q23
          refine AW.reg hS [(8, .pv (.int .i64 u22.id_)), (9, .pv (.int .i64 0))] [] ?_ ?_
          · simp -implicitDefEqProofs only [RUNS, qindex, Nat.reduceAdd, Nat.reduceLeDiff, Nat.reduceSub, reduceIte, Nat.reduceEqDiff, Nat.reduceLT, reduceCtorEq, Nat.reduceMul, Nat.reduceBEq, Int.reduceEq, if_true, if_false, eq_self, ne_eq, env_bT, T_3, T_32, T_72, T_74, T_76, P22_eq, Var.pv_eq, P72_eq, GEnv.pv_eq, Ask.pv_eq, Qid.pv_eq, Dir.pv_eq, f17.1, f17.2.1, f24.1, f24.2.1]
          refine AW.ret ?_
          cases h
          show finish _ _ _ _ _ = _
          first | rfl | (simp [finish, resOf, renArgs, toPV, selObjs, sl])

set_option maxHeartbeats 4000000 in
theorem g_F57 {O : Orc} (hS : Sound env O) (hpf : O.pf = pfn) (c_F54 : C_F54 O) (c_F10 : C_F10 O) (l1 : List GEnv) (group2 : Int) (id3 : Int) (r4 : Int) (r5 : Int) (r6 : Str) (r7 : Int) (h : F57 l1 group2 id3 = some (r4, r5, r6, r7)) : Good env 57 [.pv (.slice (List.map GEnv.pv l1)), .pv (.int .i64 group2), .pv (.int .i64 id3)] [] [.pv (.int .i64 r4), .pv (.int .i64 r5), .pv (.str r6), .pv (.int .i64 r7)] [] := by
  have pf_10 : O.pf 10 = true := by rw [hpf]; rfl
  have pf_54 : O.pf 54 = true := by rw [hpf]; rfl
  refine Good.start (fn := Tryd.f57) (N := 43) fn_57 rfl rfl (by simp) [] _ rfl rfl ?_
  rw [F57] at h
  refine AW.seq ?_
  refine AW.reg hS [(0, .pv (.slice (List.map GEnv.pv l1))), (1, .pv (.int .i64 group2)), (2, .pv (.int .i64 id3))] [] ?_ ?_
  · simp -implicitDefEqProofs only [RUNS, qindex, Nat.reduceAdd, Nat.reduceLeDiff, Nat.reduceSub, reduceIte, Nat.reduceEqDiff, Nat.reduceLT, reduceCtorEq, Nat.reduceMul, Nat.reduceBEq, Int.reduceEq, if_true, if_false, eq_self, ne_eq, env_bT, P22_eq, Var.pv_eq, P72_eq, GEnv.pv_eq, Ask.pv_eq, Qid.pv_eq, Dir.pv_eq]
  refine AW.seq ?_
  replace h := Option.bind_eq_some_iff.1 h; obtain ⟨⟨r8, r9, r10⟩, q11, h⟩ := h
  dsimp only at h
  have f12 := c_F54 l1 group2 id3 r8 r9 r10 q11
  try dsimp only at f12
  refine AW.reg hS [(0, .pv (.slice (List.map GEnv.pv l1))), (10, .pv (.int .i64 r8)), (11, .pv (.int .i64 r9)), (12, .pv (.bool r10))] [] ?_ ?_
  · simp -implicitDefEqProofs only [RUNS, qindex, Nat.reduceAdd, Nat.reduceLeDiff, Nat.reduceSub, reduceIte, Nat.reduceEqDiff, Nat.reduceLT, reduceCtorEq, Nat.reduceMul, Nat.reduceBEq, Int.reduceEq, if_true, if_false, eq_self, ne_eq, env_bT, T_3, T_32, T_74, P22_eq, Var.pv_eq, P72_eq, GEnv.pv_eq, Ask.pv_eq, Qid.pv_eq, Dir.pv_eq, pf_54, f12]
  refine AW.seq ?_
  refine AW.seq ?_
  refine AW.reg hS [(0, .pv (.slice (List.map GEnv.pv l1))), (10, .pv (.int .i64 r8)), (11, .pv (.int .i64 r9)), (24, .pv (.bool (!r10)))] [] ?_ ?_
  · simp -implicitDefEqProofs only [RUNS, qindex, Nat.reduceAdd, Nat.reduceLeDiff, Nat.reduceSub, reduceIte, Nat.reduceEqDiff, Nat.reduceLT, reduceCtorEq, Nat.reduceMul, Nat.reduceBEq, Int.reduceEq, if_true, if_false, eq_self, ne_eq, env_bT, P22_eq, Var.pv_eq, P72_eq, GEnv.pv_eq, Ask.pv_eq, Qid.pv_eq, Dir.pv_eq]
  refine AW.cond (b := !r10) rfl (fun hb13 => ?_) (fun hb13 => ?_)
  · replace h := bif_t hb13 h
    refine AW.seq ?_
    refine AW.reg hS [(6, .pv (.int .i64 0)), (7, .pv (.int .i64 0)), (8, .pv (.str [])), (9, .pv (.int .i64 8))] [] ?_ ?_
    · simp -implicitDefEqProofs only [RUNS, qindex, Nat.reduceAdd, Nat.reduceLeDiff, Nat.reduceSub, reduceIte, Nat.reduceEqDiff, Nat.reduceLT, reduceCtorEq, Nat.reduceMul, Nat.reduceBEq, Int.reduceEq, if_true, if_false, eq_self, ne_eq, env_bT, P22_eq, Var.pv_eq, P72_eq, GEnv.pv_eq, Ask.pv_eq, Qid.pv_eq, Dir.pv_eq]
    refine AW.ret ?_
    cases h
    show finish _ _ _ _ _ = _
    first | rfl | (simp [finish, resOf, renArgs, toPV, selObjs, sl])
  · replace h := bif_f hb13 h
    refine AW.skip ?_
    refine AW.seq ?_
    refine AW.seq ?_
    refine AW.reg hS [(0, .pv (.slice (List.map GEnv.pv l1))), (10, .pv (.int .i64 r8)), (11, .pv (.int .i64 r9)), (26, .pv (.bool (decide (r9 < 0))))] [] ?_ ?_
    · simp -implicitDefEqProofs only [RUNS, qindex, Nat.reduceAdd, Nat.reduceLeDiff, Nat.reduceSub, reduceIte, Nat.reduceEqDiff, Nat.reduceLT, reduceCtorEq, Nat.reduceMul, Nat.reduceBEq, Int.reduceEq, if_true, if_false, eq_self, ne_eq, env_bT, T_3, P22_eq, Var.pv_eq, P72_eq, GEnv.pv_eq, Ask.pv_eq, Qid.pv_eq, Dir.pv_eq, eqT_3]
    refine AW.cond (b := decide (r9 < 0)) rfl (fun hb14 => ?_) (fun hb14 => ?_)
    · replace h := bif_t hb14 h
      refine AW.seq ?_
      refine AW.reg hS [(6, .pv (.int .i64 0)), (7, .pv (.int .i64 0)), (8, .pv (.str [])), (9, .pv (.int .i64 10))] [] ?_ ?_
      · simp -implicitDefEqProofs only [RUNS, qindex, Nat.reduceAdd, Nat.reduceLeDiff, Nat.reduceSub, reduceIte, Nat.reduceEqDiff, Nat.reduceLT, reduceCtorEq, Nat.reduceMul, Nat.reduceBEq, Int.reduceEq, if_true, if_false, eq_self, ne_eq, env_bT, P22_eq, Var.pv_eq, P72_eq, GEnv.pv_eq, Ask.pv_eq, Qid.pv_eq, Dir.pv_eq]
      refine AW.ret ?_
      cases h
      show finish _ _ _ _ _ = _
      first | rfl | (simp [finish, resOf, renArgs, toPV, selObjs, sl])
    · replace h := bif_f hb14 h
      refine AW.skip ?_
      refine AW.seq ?_
      replace h := Option.bind_eq_some_iff.1 h; obtain ⟨u15, q16, h⟩ := h
      have f17 := lidx_f q16
      replace h := Option.bind_eq_some_iff.1 h; obtain ⟨u18, q19, h⟩ := h
      have f20 := lidx_f q19
      replace h := Option.bind_eq_some_iff.1 h; obtain ⟨⟨r21, r22⟩, q23, h⟩ := h
      dsimp only at h
      have f24 := c_F10 u18.values_ r21 r22 q23
      try dsimp only at f24
      refine AW.reg hS [(10, .pv (.int .i64 r8)), (11, .pv (.int .i64 r9)), (13, .pv (.str r21))] [] ?_ ?_
      · simp -implicitDefEqProofs only [RUNS, qindex, Nat.reduceAdd, Nat.reduceLeDiff, Nat.reduceSub, reduceIte, Nat.reduceEqDiff, Nat.reduceLT, reduceCtorEq, Nat.reduceMul, Nat.reduceBEq, Int.reduceEq, if_true, if_false, eq_self, ne_eq, env_bT, T_9, T_22, T_32, T_72, T_74, T_76, P22_eq, Var.pv_eq, P72_eq, GEnv.pv_eq, Ask.pv_eq, Qid.pv_eq, Dir.pv_eq, f17.1, f17.2.1, f20.1, f20.2.1, pf_10, f24]
      refine AW.seq ?_
      refine AW.reg hS [(6, .pv (.int .i64 r8)), (7, .pv (.int .i64 r9)), (8, .pv (.str r21)), (9, .pv (.int .i64 0))] [] ?_ ?_
      · simp -implicitDefEqProofs only [RUNS, qindex, Nat.reduceAdd, Nat.reduceLeDiff, Nat.reduceSub, reduceIte, Nat.reduceEqDiff, Nat.reduceLT, reduceCtorEq, Nat.reduceMul, Nat.reduceBEq, Int.reduceEq, if_true, if_false, eq_self, ne_eq, env_bT, P22_eq, Var.pv_eq, P72_eq, GEnv.pv_eq, Ask.pv_eq, Qid.pv_eq, Dir.pv_eq]
      refine AW.ret ?_
      cases h
      show finish _ _ _ _ _ = _
      first | rfl | (simp [finish, resOf, renArgs, toPV, selObjs, sl])

set_option maxHeartbeats 4000000 in
theorem g_F25 {O : Orc} (hS : Sound env O) (hpf : O.pf = pfn) (c_F57 : C_F57 O) (l1 : List GEnv) (group2 : Int) (id3 : Int) (offset4 : Int) (count5 : Int) (r6 : Str) (r7 : Int) (h : F25 l1 group2 id3 offset4 count5 = some (r6, r7)) : Good env 25 [.pv (.slice (List.map GEnv.pv l1)), .pv (.int .i64 group2), .pv (.int .i64 id3), .pv (.int .i64 offset4), .pv (.int .i64 count5)] [] [.pv (.str r6), .pv (.int .i64 r7)] [] := by
  have pf_57 : O.pf 57 = true := by rw [hpf]; rfl
  refine Good.start (fn := Tryd.f25) (N := 50) fn_25 rfl rfl (by simp) [] _ rfl rfl ?_
  rw [F25] at h
  refine AW.seq ?_
  refine AW.reg hS [(0, .pv (.slice (List.map GEnv.pv l1))), (1, .pv (.int .i64 group2)), (2, .pv (.int .i64 id3)), (3, .pv (.int .i64 offset4)), (4, .pv (.int .i64 count5))] [] ?_ ?_
  · simp -implicitDefEqProofs only [RUNS, qindex, Nat.reduceAdd, Nat.reduceLeDiff, Nat.reduceSub, reduceIte, Nat.reduceEqDiff, Nat.reduceLT, reduceCtorEq, Nat.reduceMul, Nat.reduceBEq, Int.reduceEq, if_true, if_false, eq_self, ne_eq, env_bT, P22_eq, Var.pv_eq, P72_eq, GEnv.pv_eq, Ask.pv_eq, Qid.pv_eq, Dir.pv_eq]
  refine AW.seq ?_
  replace h := Option.bind_eq_some_iff.1 h; obtain ⟨⟨r8, r9, r10, r11⟩, q12, h⟩ := h
  dsimp only at h
  have f13 := c_F57 l1 group2 id3 r8 r9 r10 r11 q12
  try dsimp only at f13
  refine AW.reg hS [(3, .pv (.int .i64 offset4)), (4, .pv (.int .i64 count5)), (14, .pv (.str r10)), (15, .pv (.int .i64 r11))] [] ?_ ?_
  · simp -implicitDefEqProofs only [RUNS, qindex, Nat.reduceAdd, Nat.reduceLeDiff, Nat.reduceSub, reduceIte, Nat.reduceEqDiff, Nat.reduceLT, reduceCtorEq, Nat.reduceMul, Nat.reduceBEq, Int.reduceEq, if_true, if_false, eq_self, ne_eq, env_bT, T_3, T_32, T_74, P22_eq, Var.pv_eq, P72_eq, GEnv.pv_eq, Ask.pv_eq, Qid.pv_eq, Dir.pv_eq, pf_57, f13]
  refine AW.seq ?_
  refine AW.seq ?_
  refine AW.reg hS [(3, .pv (.int .i64 offset4)), (4, .pv (.int .i64 count5)), (14, .pv (.str r10)), (15, .pv (.int .i64 r11)), (27, .pv (.bool (!decide (r11 = 0))))] [] ?_ ?_
  · simp -implicitDefEqProofs only [RUNS, qindex, Nat.reduceAdd, Nat.reduceLeDiff, Nat.reduceSub, reduceIte, Nat.reduceEqDiff, Nat.reduceLT, reduceCtorEq, Nat.reduceMul, Nat.reduceBEq, Int.reduceEq, if_true, if_false, eq_self, ne_eq, env_bT, T_25, P22_eq, Var.pv_eq, P72_eq, GEnv.pv_eq, Ask.pv_eq, Qid.pv_eq, Dir.pv_eq, eqT_25]
  refine AW.cond (b := !decide (r11 = 0)) rfl (fun hb14 => ?_) (fun hb14 => ?_)
  · replace h := bif_t hb14 h
    refine AW.seq ?_
    refine AW.reg hS [(10, .pv (.str [])), (11, .pv (.int .i64 r11))] [] ?_ ?_
    · simp -implicitDefEqProofs only [RUNS, qindex, Nat.reduceAdd, Nat.reduceLeDiff, Nat.reduceSub, reduceIte, Nat.reduceEqDiff, Nat.reduceLT, reduceCtorEq, Nat.reduceMul, Nat.reduceBEq, Int.reduceEq, if_true, if_false, eq_self, ne_eq, env_bT, P22_eq, Var.pv_eq, P72_eq, GEnv.pv_eq, Ask.pv_eq, Qid.pv_eq, Dir.pv_eq]
    refine AW.ret ?_
    cases h
    show finish _ _ _ _ _ = _
    first | rfl | (simp [finish, resOf, renArgs, toPV, selObjs, sl])
  · replace h := bif_f hb14 h
    refine AW.skip ?_
    refine AW.seq ?_
    refine AW.seq ?_
    refine AW.reg hS [(3, .pv (.int .i64 offset4)), (4, .pv (.int .i64 count5)), (14, .pv (.str r10)), (34, .pv (.bool (decide (offset4 < 0) || decide (count5 < 0))))] [] ?_ ?_
    · clear h
      (simp -implicitDefEqProofs only [RUNS, qindex, Nat.reduceAdd, Nat.reduceLeDiff, Nat.reduceSub, reduceIte, Nat.reduceEqDiff, Nat.reduceLT, reduceCtorEq, Nat.reduceMul, Nat.reduceBEq, Int.reduceEq, if_true, if_false, eq_self, ne_eq, env_bT, T_3, P22_eq, Var.pv_eq, P72_eq, GEnv.pv_eq, Ask.pv_eq, Qid.pv_eq, Dir.pv_eq, eqT_3]); repeat' (split <;> rename_i hb <;> (try simp only [HBS, ge_iff_le, gt_iff_lt] at hb) <;> simp -implicitDefEqProofs only [RUNS, qindex, Nat.reduceAdd, Nat.reduceLeDiff, Nat.reduceSub, reduceIte, Nat.reduceEqDiff, Nat.reduceLT, reduceCtorEq, Nat.reduceMul, Nat.reduceBEq, Int.reduceEq, if_true, if_false, eq_self, ne_eq, env_bT, T_3, P22_eq, Var.pv_eq, P72_eq, GEnv.pv_eq, Ask.pv_eq, Qid.pv_eq, Dir.pv_eq, eqT_3, *, decide_true, decide_false, Decidable.not_not, not_false_eq_true, not_true_eq_false])
      all_goals (first | (simp only [BOOLS]; done) | (simp [*]; done) | ((try simp only [CLOS, beq_iff_eq, bne_iff_ne, ne_eq] at *) <;> omega) | (simp_all; done) | (simp_all <;> omega))
    refine AW.cond (b := (decide (offset4 < 0) || decide (count5 < 0))) rfl (fun hb15 => ?_) (fun hb15 => ?_)
    · replace h := bif_t hb15 h
      refine AW.seq ?_
      refine AW.reg hS [(10, .pv (.str [])), (11, .pv (.int .i64 1))] [] ?_ ?_
      · simp -implicitDefEqProofs only [RUNS, qindex, Nat.reduceAdd, Nat.reduceLeDiff, Nat.reduceSub, reduceIte, Nat.reduceEqDiff, Nat.reduceLT, reduceCtorEq, Nat.reduceMul, Nat.reduceBEq, Int.reduceEq, if_true, if_false, eq_self, ne_eq, env_bT, P22_eq, Var.pv_eq, P72_eq, GEnv.pv_eq, Ask.pv_eq, Qid.pv_eq, Dir.pv_eq]
      refine AW.ret ?_
      cases h
      show finish _ _ _ _ _ = _
      first | rfl | (simp [finish, resOf, renArgs, toPV, selObjs, sl])
    · replace h := bif_f hb15 h
      refine AW.skip ?_
      refine AW.seq ?_
      refine AW.reg hS [(4, .pv (.int .i64 count5)), (14, .pv (.str r10)), (16, .pv (.int .i64 (imin offset4 (r10.length : Int))))] [] ?_ ?_
      · simp -implicitDefEqProofs only [RUNS, qindex, Nat.reduceAdd, Nat.reduceLeDiff, Nat.reduceSub, reduceIte, Nat.reduceEqDiff, Nat.reduceLT, reduceCtorEq, Nat.reduceMul, Nat.reduceBEq, Int.reduceEq, if_true, if_false, eq_self, ne_eq, env_bT, T_3, T_9, P22_eq, Var.pv_eq, P72_eq, GEnv.pv_eq, Ask.pv_eq, Qid.pv_eq, Dir.pv_eq]
      refine AW.seq ?_
      replace h := Option.bind_eq_some_iff.1 h; obtain ⟨t16, q17, h⟩ := h
      have f18 := sslice_f q17
      have f18e := f18.2.2.2.2
      try simp only [Int.toNat_natCast, Int.toNat_zero, List.drop_zero] at f18e
      have f18l := f18.2.2.1
      try simp only [Int.toNat_natCast, Int.toNat_zero] at f18l
      refine AW.reg hS [(10, .pv (.str t16)), (11, .pv (.int .i64 0))] [] ?_ ?_
      · simp -implicitDefEqProofs only [RUNS, qindex, Nat.reduceAdd, Nat.reduceLeDiff, Nat.reduceSub, reduceIte, Nat.reduceEqDiff, Nat.reduceLT, reduceCtorEq, Nat.reduceMul, Nat.reduceBEq, Int.reduceEq, if_true, if_false, eq_self, ne_eq, env_bT, T_3, T_9, P22_eq, Var.pv_eq, P72_eq, GEnv.pv_eq, Ask.pv_eq, Qid.pv_eq, Dir.pv_eq, eqT_3, f18.1, f18.2.1, f18l, f18.2.2.2.1, f18e, Int.toNat_natCast, Int.toNat_zero]
      refine AW.ret ?_
      cases h
      show finish _ _ _ _ _ = _
      first | rfl | (simp [finish, resOf, renArgs, toPV, selObjs, sl])

set_option maxHeartbeats 4000000 in
theorem g_F59 {O : Orc} (hS : Sound env O) (hpf : O.pf = pfn) (c_F56 : C_F56 O) (v1 : Var) (r2 : Dir) (h : F59 v1 = some r2) : Good env 59 [.pv (.agg [.int .i64 v1.id_, .str v1.name_, .slice (List.map PV.str v1.values_)])] [] [.pv (.agg [.int .i64 r2.type_, .int .i64 r2.dev_, .int .i64 r2.qid_.type_, .int .i64 r2.qid_.vers_, .int .i64 r2.qid_.path_, .int .i64 r2.mode_, .int .i64 r2.atime_, .int .i64 r2.mtime_, .int .i64 r2.length_, .str r2.name_, .str r2.uid_, .str r2.gid_, .str r2.muid_])] [] := by
  have pf_56 : O.pf 56 = true := by rw [hpf]; rfl
  refine Good.start (fn := Tryd.f59) (N := 12) fn_59 rfl rfl (by simp) [] _ rfl rfl ?_
  rw [F59] at h
  refine AW.seq ?_
  refine AW.reg hS [(1, .ref 0 0), (2, .ref 1 0)] [.var [.pv (.int .i64 v1.id_), .pv (.str v1.name_), .pv (.slice (List.map PV.str v1.values_))], .var [.pv (.int .i64 0), .pv (.int .i64 0), .pv (.int .i64 0), .pv (.int .i64 0), .pv (.int .i64 0), .pv (.int .i64 0), .pv (.int .i64 0), .pv (.int .i64 0), .pv (.int .i64 0), .pv (.str []), .pv (.str []), .pv (.str []), .pv (.str [])]] ?_ ?_
  · simp -implicitDefEqProofs only [RUNS, qindex, Nat.reduceAdd, Nat.reduceLeDiff, Nat.reduceSub, reduceIte, Nat.reduceEqDiff, Nat.reduceLT, reduceCtorEq, Nat.reduceMul, Nat.reduceBEq, Int.reduceEq, if_true, if_false, eq_self, ne_eq, env_bT, T_51, T_76, P22_eq, Var.pv_eq, P72_eq, GEnv.pv_eq, Ask.pv_eq, Qid.pv_eq, Dir.pv_eq]
  refine AW.seq ?_
  replace h := Option.bind_eq_some_iff.1 h; obtain ⟨r3, q4, h⟩ := h
  have f5 := c_F56 v1 r3 q4
  try dsimp only at f5
  refine AW.dregB mixed hS [(1, some 0), (2, some 1), (3, some 0), (9, some 0)] rfl (hpf ▸ (by kernel_rfl : orderOKB pfn [(1, some 0), (2, some 1), (3, some 0), (9, some 0)] _ = true)) [(2, .ref 1 0)] [.var [.pv (.int .i64 v1.id_), .pv (.str v1.name_), .pv (.slice (List.map PV.str v1.values_))], .var [.pv (.int .i64 8), .pv (.int .i64 0), .pv (.int .i64 0), .pv (.int .i64 0), .pv (.int .i64 v1.id_), .pv (.int .i64 438), .pv (.int .i64 0), .pv (.int .i64 0), .pv (.int .i64 (r3.length : Int)), .pv (.str v1.name_), .pv (.str [115, 121, 115]), .pv (.str [115, 121, 115]), .pv (.str [])]] ?_ ?_
  · simp -implicitDefEqProofs only [RUNS, qindex, Nat.reduceAdd, Nat.reduceLeDiff, Nat.reduceSub, reduceIte, Nat.reduceEqDiff, Nat.reduceLT, reduceCtorEq, Nat.reduceMul, Nat.reduceBEq, Int.reduceEq, if_true, if_false, eq_self, ne_eq, env_bT, T_3, T_9, T_49, T_51, T_76, P22_eq, Var.pv_eq, P72_eq, GEnv.pv_eq, Ask.pv_eq, Qid.pv_eq, Dir.pv_eq, ownT_49, pf_56, f5, ownT_51]
  refine AW.ret ?_
  cases h
  show finish _ _ _ _ _ = _
  first | rfl | (simp [finish, resOf, renArgs, toPV, selObjs, sl])

set_option maxHeartbeats 4000000 in
theorem g_F26 {O : Orc} (hS : Sound env O) (hpf : O.pf = pfn) (c_F58 : C_F58 O) (c_F59 : C_F59 O) (l1 : List GEnv) (group2 : Int) (id3 : Int) (r4 : Dir) (r5 : Int) (h : F26 l1 group2 id3 = some (r4, r5)) : Good env 26 [.pv (.slice (List.map GEnv.pv l1)), .pv (.int .i64 group2), .pv (.int .i64 id3)] [] [.pv (.agg [.int .i64 r4.type_, .int .i64 r4.dev_, .int .i64 r4.qid_.type_, .int .i64 r4.qid_.vers_, .int .i64 r4.qid_.path_, .int .i64 r4.mode_, .int .i64 r4.atime_, .int .i64 r4.mtime_, .int .i64 r4.length_, .str r4.name_, .str r4.uid_, .str r4.gid_, .str r4.muid_]), .pv (.int .i64 r5)] [] := by
  have pf_58 : O.pf 58 = true := by rw [hpf]; rfl
  have pf_59 : O.pf 59 = true := by rw [hpf]; rfl
  refine Good.start (fn := Tryd.f26) (N := 38) fn_26 rfl rfl (by simp) [] _ rfl rfl ?_
  rw [F26] at h
  refine AW.seq ?_
  refine AW.reg hS [(0, .pv (.slice (List.map GEnv.pv l1))), (1, .pv (.int .i64 group2)), (2, .pv (.int .i64 id3)), (6, .ref 0 0)] [.var [.pv (.int .i64 0), .pv (.int .i64 0), .pv (.int .i64 0), .pv (.int .i64 0), .pv (.int .i64 0), .pv (.int .i64 0), .pv (.int .i64 0), .pv (.int .i64 0), .pv (.int .i64 0), .pv (.str []), .pv (.str []), .pv (.str []), .pv (.str [])]] ?_ ?_
  · simp -implicitDefEqProofs only [RUNS, qindex, Nat.reduceAdd, Nat.reduceLeDiff, Nat.reduceSub, reduceIte, Nat.reduceEqDiff, Nat.reduceLT, reduceCtorEq, Nat.reduceMul, Nat.reduceBEq, Int.reduceEq, if_true, if_false, eq_self, ne_eq, env_bT, T_51, P22_eq, Var.pv_eq, P72_eq, GEnv.pv_eq, Ask.pv_eq, Qid.pv_eq, Dir.pv_eq]
  refine AW.seq ?_
  replace h := Option.bind_eq_some_iff.1 h; obtain ⟨⟨r6, r7, r8⟩, q9, h⟩ := h
  dsimp only at h
  have f10 := c_F58 l1 group2 id3 r6 r7 r8 q9
  try dsimp only at f10
  refine AW.reg hS [(0, .pv (.slice (List.map GEnv.pv l1))), (6, .ref 0 0), (8, .pv (.int .i64 r6)), (9, .pv (.int .i64 r7)), (10, .pv (.int .i64 r8))] [.var [.pv (.int .i64 0), .pv (.int .i64 0), .pv (.int .i64 0), .pv (.int .i64 0), .pv (.int .i64 0), .pv (.int .i64 0), .pv (.int .i64 0), .pv (.int .i64 0), .pv (.int .i64 0), .pv (.str []), .pv (.str []), .pv (.str []), .pv (.str [])]] ?_ ?_
  · simp -implicitDefEqProofs only [RUNS, qindex, Nat.reduceAdd, Nat.reduceLeDiff, Nat.reduceSub, reduceIte, Nat.reduceEqDiff, Nat.reduceLT, reduceCtorEq, Nat.reduceMul, Nat.reduceBEq, Int.reduceEq, if_true, if_false, eq_self, ne_eq, env_bT, T_3, T_32, T_74, P22_eq, Var.pv_eq, P72_eq, GEnv.pv_eq, Ask.pv_eq, Qid.pv_eq, Dir.pv_eq, pf_58, f10]
  refine AW.seq ?_
  refine AW.block ?_
  refine AW.seq ?_
  refine AW.reg hS [(0, .pv (.slice (List.map GEnv.pv l1))), (6, .ref 0 0), (8, .pv (.int .i64 r6)), (9, .pv (.int .i64 r7)), (10, .pv (.int .i64 r8)), (19, .pv (.bool (!decide (r8 = 0))))] [.var [.pv (.int .i64 0), .pv (.int .i64 0), .pv (.int .i64 0), .pv (.int .i64 0), .pv (.int .i64 0), .pv (.int .i64 0), .pv (.int .i64 0), .pv (.int .i64 0), .pv (.int .i64 0), .pv (.str []), .pv (.str []), .pv (.str []), .pv (.str [])]] ?_ ?_
  · simp -implicitDefEqProofs only [RUNS, qindex, Nat.reduceAdd, Nat.reduceLeDiff, Nat.reduceSub, reduceIte, Nat.reduceEqDiff, Nat.reduceLT, reduceCtorEq, Nat.reduceMul, Nat.reduceBEq, Int.reduceEq, if_true, if_false, eq_self, ne_eq, env_bT, T_25, P22_eq, Var.pv_eq, P72_eq, GEnv.pv_eq, Ask.pv_eq, Qid.pv_eq, Dir.pv_eq, eqT_25]
  refine AW.cond (b := !decide (r8 = 0)) rfl (fun hb11 => ?_) (fun hb11 => ?_)
  · replace h := bif_t hb11 h
    refine AW.seq ?_
    refine AW.reg hS [(6, .ref 0 0), (7, .pv (.int .i64 r8))] [.var [.pv (.int .i64 0), .pv (.int .i64 0), .pv (.int .i64 0), .pv (.int .i64 0), .pv (.int .i64 0), .pv (.int .i64 0), .pv (.int .i64 0), .pv (.int .i64 0), .pv (.int .i64 0), .pv (.str []), .pv (.str []), .pv (.str []), .pv (.str [])]] ?_ ?_
    · simp -implicitDefEqProofs only [RUNS, qindex, Nat.reduceAdd, Nat.reduceLeDiff, Nat.reduceSub, reduceIte, Nat.reduceEqDiff, Nat.reduceLT, reduceCtorEq, Nat.reduceMul, Nat.reduceBEq, Int.reduceEq, if_true, if_false, eq_self, ne_eq, env_bT, T_51, P22_eq, Var.pv_eq, P72_eq, GEnv.pv_eq, Ask.pv_eq, Qid.pv_eq, Dir.pv_eq, ownT_51]
    refine AW.ret ?_
    cases h
    show finish _ _ _ _ _ = _
    first | rfl | (simp [finish, resOf, renArgs, toPV, selObjs, sl])
  · replace h := bif_f hb11 h
    refine AW.seq ?_
    refine AW.reg hS [(0, .pv (.slice (List.map GEnv.pv l1))), (6, .ref 0 0), (8, .pv (.int .i64 r6)), (9, .pv (.int .i64 r7)), (24, .pv (.bool (decide (r7 < 0))))] [.var [.pv (.int .i64 0), .pv (.int .i64 0), .pv (.int .i64 0), .pv (.int .i64 0), .pv (.int .i64 0), .pv (.int .i64 0), .pv (.int .i64 0), .pv (.int .i64 0), .pv (.int .i64 0), .pv (.str []), .pv (.str []), .pv (.str []), .pv (.str [])]] ?_ ?_
    · simp -implicitDefEqProofs only [RUNS, qindex, Nat.reduceAdd, Nat.reduceLeDiff, Nat.reduceSub, reduceIte, Nat.reduceEqDiff, Nat.reduceLT, reduceCtorEq, Nat.reduceMul, Nat.reduceBEq, Int.reduceEq, if_true, if_false, eq_self, ne_eq, env_bT, T_3, P22_eq, Var.pv_eq, P72_eq, GEnv.pv_eq, Ask.pv_eq, Qid.pv_eq, Dir.pv_eq, eqT_3]
    refine AW.cond (b := decide (r7 < 0)) rfl (fun hb12 => ?_) (fun hb12 => ?_)
    · replace h := bif_t hb12 h
      refine AW.seq ?_
      refine AW.reg hS [(6, .ref 0 0), (7, .pv (.int .i64 0))] [.var [.pv (.int .i64 8), .pv (.int .i64 0), .pv (.int .i64 128), .pv (.int .i64 0), .pv (.int .i64 1), .pv (.int .i64 2147484159), .pv (.int .i64 0), .pv (.int .i64 0), .pv (.int .i64 0), .pv (.str [47]), .pv (.str [115, 121, 115]), .pv (.str [115, 121, 115]), .pv (.str [])]] ?_ ?_
      · simp -implicitDefEqProofs only [RUNS, qindex, Nat.reduceAdd, Nat.reduceLeDiff, Nat.reduceSub, reduceIte, Nat.reduceEqDiff, Nat.reduceLT, reduceCtorEq, Nat.reduceMul, Nat.reduceBEq, Int.reduceEq, if_true, if_false, eq_self, ne_eq, env_bT, T_49, T_51, P22_eq, Var.pv_eq, P72_eq, GEnv.pv_eq, Ask.pv_eq, Qid.pv_eq, Dir.pv_eq, ownT_49, ownT_51]
      refine AW.ret ?_
      cases h
      show finish _ _ _ _ _ = _
      first | rfl | (simp [finish, resOf, renArgs, toPV, selObjs, sl])
    · replace h := bif_f hb12 h
      refine AW.skip ?_
      refine AW.seq ?_
      replace h := Option.bind_eq_some_iff.1 h; obtain ⟨u13, q14, h⟩ := h
      have f15 := lidx_f q14
      replace h := Option.bind_eq_some_iff.1 h; obtain ⟨u16, q17, h⟩ := h
      have f18 := lidx_f q17
      replace h := Option.bind_eq_some_iff.1 h; obtain ⟨r19, q20, h⟩ := h
      have f21 := c_F59 u16 r19 q20
      try dsimp only at f21
      refine AW.reg hS [(6, .ref 0 0), (7, .pv (.int .i64 0))] [.var [.pv (.int .i64 r19.type_), .pv (.int .i64 r19.dev_), .pv (.int .i64 r19.qid_.type_), .pv (.int .i64 r19.qid_.vers_), .pv (.int .i64 r19.qid_.path_), .pv (.int .i64 r19.mode_), .pv (.int .i64 r19.atime_), .pv (.int .i64 r19.mtime_), .pv (.int .i64 r19.length_), .pv (.str r19.name_), .pv (.str r19.uid_), .pv (.str r19.gid_), .pv (.str r19.muid_)]] ?_ ?_
      · simp -implicitDefEqProofs only [RUNS, qindex, Nat.reduceAdd, Nat.reduceLeDiff, Nat.reduceSub, reduceIte, Nat.reduceEqDiff, Nat.reduceLT, reduceCtorEq, Nat.reduceMul, Nat.reduceBEq, Int.reduceEq, if_true, if_false, eq_self, ne_eq, env_bT, T_32, T_51, T_72, T_74, T_76, P22_eq, Var.pv_eq, P72_eq, GEnv.pv_eq, Ask.pv_eq, Qid.pv_eq, Dir.pv_eq, f15.1, f15.2.1, f18.1, f18.2.1, pf_59, f21]
      refine AW.ret ?_
      cases h
      show finish _ _ _ _ _ = _
      first | rfl | (simp [finish, resOf, renArgs, toPV, selObjs, sl])

set_option maxHeartbeats 4000000 in
theorem g_F27 {O : Orc} (hS : Sound env O) (hpf : O.pf = pfn) (c_F54 : C_F54 O) (c_F10 : C_F10 O) (l1 : List GEnv) (group2 : Int) (id3 : Int) (r4 : Dir) (r5 : Int) (h : F27 l1 group2 id3 = some (r4, r5)) : Good env 27 [.pv (.slice (List.map GEnv.pv l1)), .pv (.int .i64 group2), .pv (.int .i64 id3)] [] [.pv (.agg [.int .i64 r4.type_, .int .i64 r4.dev_, .int .i64 r4.qid_.type_, .int .i64 r4.qid_.vers_, .int .i64 r4.qid_.path_, .int .i64 r4.mode_, .int .i64 r4.atime_, .int .i64 r4.mtime_, .int .i64 r4.length_, .str r4.name_, .str r4.uid_, .str r4.gid_, .str r4.muid_]), .pv (.int .i64 r5)] [] := by
  have pf_10 : O.pf 10 = true := by rw [hpf]; rfl
  have pf_54 : O.pf 54 = true := by rw [hpf]; rfl
  refine Good.start (fn := Tryd.f27) (N := 55) fn_27 rfl rfl (by simp) [] _ rfl rfl ?_
  rw [F27] at h
  refine AW.seq ?_
  refine AW.reg hS [(0, .pv (.slice (List.map GEnv.pv l1))), (1, .pv (.int .i64 group2)), (2, .pv (.int .i64 id3)), (6, .ref 0 0)] [.var [.pv (.int .i64 0), .pv (.int .i64 0), .pv (.int .i64 0), .pv (.int .i64 0), .pv (.int .i64 0), .pv (.int .i64 0), .pv (.int .i64 0), .pv (.int .i64 0), .pv (.int .i64 0), .pv (.str []), .pv (.str []), .pv (.str []), .pv (.str [])]] ?_ ?_
  · simp -implicitDefEqProofs only [RUNS, qindex, Nat.reduceAdd, Nat.reduceLeDiff, Nat.reduceSub, reduceIte, Nat.reduceEqDiff, Nat.reduceLT, reduceCtorEq, Nat.reduceMul, Nat.reduceBEq, Int.reduceEq, if_true, if_false, eq_self, ne_eq, env_bT, T_51, P22_eq, Var.pv_eq, P72_eq, GEnv.pv_eq, Ask.pv_eq, Qid.pv_eq, Dir.pv_eq]
  refine AW.seq ?_
  replace h := Option.bind_eq_some_iff.1 h; obtain ⟨⟨r6, r7, r8⟩, q9, h⟩ := h
  dsimp only at h
  have f10 := c_F54 l1 group2 id3 r6 r7 r8 q9
  try dsimp only at f10
  refine AW.reg hS [(0, .pv (.slice (List.map GEnv.pv l1))), (2, .pv (.int .i64 id3)), (6, .ref 0 0), (8, .pv (.int .i64 r6)), (9, .pv (.int .i64 r7)), (10, .pv (.bool r8))] [.var [.pv (.int .i64 0), .pv (.int .i64 0), .pv (.int .i64 0), .pv (.int .i64 0), .pv (.int .i64 0), .pv (.int .i64 0), .pv (.int .i64 0), .pv (.int .i64 0), .pv (.int .i64 0), .pv (.str []), .pv (.str []), .pv (.str []), .pv (.str [])]] ?_ ?_
  · simp -implicitDefEqProofs only [RUNS, qindex, Nat.reduceAdd, Nat.reduceLeDiff, Nat.reduceSub, reduceIte, Nat.reduceEqDiff, Nat.reduceLT, reduceCtorEq, Nat.reduceMul, Nat.reduceBEq, Int.reduceEq, if_true, if_false, eq_self, ne_eq, env_bT, T_3, T_32, T_74, P22_eq, Var.pv_eq, P72_eq, GEnv.pv_eq, Ask.pv_eq, Qid.pv_eq, Dir.pv_eq, pf_54, f10]
  refine AW.seq ?_
  refine AW.seq ?_
  refine AW.reg hS [(0, .pv (.slice (List.map GEnv.pv l1))), (2, .pv (.int .i64 id3)), (6, .ref 0 0), (8, .pv (.int .i64 r6)), (9, .pv (.int .i64 r7)), (22, .pv (.bool (!r8)))] [.var [.pv (.int .i64 0), .pv (.int .i64 0), .pv (.int .i64 0), .pv (.int .i64 0), .pv (.int .i64 0), .pv (.int .i64 0), .pv (.int .i64 0), .pv (.int .i64 0), .pv (.int .i64 0), .pv (.str []), .pv (.str []), .pv (.str []), .pv (.str [])]] ?_ ?_
  · simp -implicitDefEqProofs only [RUNS, qindex, Nat.reduceAdd, Nat.reduceLeDiff, Nat.reduceSub, reduceIte, Nat.reduceEqDiff, Nat.reduceLT, reduceCtorEq, Nat.reduceMul, Nat.reduceBEq, Int.reduceEq, if_true, if_false, eq_self, ne_eq, env_bT, P22_eq, Var.pv_eq, P72_eq, GEnv.pv_eq, Ask.pv_eq, Qid.pv_eq, Dir.pv_eq]
  refine AW.cond (b := !r8) rfl (fun hb11 => ?_) (fun hb11 => ?_)
  · replace h := bif_t hb11 h
    refine AW.seq ?_
    refine AW.reg hS [(6, .ref 0 0), (7, .pv (.int .i64 8))] [.var [.pv (.int .i64 0), .pv (.int .i64 0), .pv (.int .i64 0), .pv (.int .i64 0), .pv (.int .i64 0), .pv (.int .i64 0), .pv (.int .i64 0), .pv (.int .i64 0), .pv (.int .i64 0), .pv (.str []), .pv (.str []), .pv (.str []), .pv (.str [])]] ?_ ?_
    · simp -implicitDefEqProofs only [RUNS, qindex, Nat.reduceAdd, Nat.reduceLeDiff, Nat.reduceSub, reduceIte, Nat.reduceEqDiff, Nat.reduceLT, reduceCtorEq, Nat.reduceMul, Nat.reduceBEq, Int.reduceEq, if_true, if_false, eq_self, ne_eq, env_bT, T_51, P22_eq, Var.pv_eq, P72_eq, GEnv.pv_eq, Ask.pv_eq, Qid.pv_eq, Dir.pv_eq, ownT_51]
    refine AW.ret ?_
    cases h
    show finish _ _ _ _ _ = _
    first | rfl | (simp [finish, resOf, renArgs, toPV, selObjs, sl])
  · replace h := bif_f hb11 h
    refine AW.skip ?_
    refine AW.seq ?_
    refine AW.seq ?_
    refine AW.reg hS [(0, .pv (.slice (List.map GEnv.pv l1))), (2, .pv (.int .i64 id3)), (6, .ref 0 0), (8, .pv (.int .i64 r6)), (9, .pv (.int .i64 r7)), (25, .pv (.bool (decide (r7 < 0))))] [.var [.pv (.int .i64 0), .pv (.int .i64 0), .pv (.int .i64 0), .pv (.int .i64 0), .pv (.int .i64 0), .pv (.int .i64 0), .pv (.int .i64 0), .pv (.int .i64 0), .pv (.int .i64 0), .pv (.str []), .pv (.str []), .pv (.str []), .pv (.str [])]] ?_ ?_
    · simp -implicitDefEqProofs only [RUNS, qindex, Nat.reduceAdd, Nat.reduceLeDiff, Nat.reduceSub, reduceIte, Nat.reduceEqDiff, Nat.reduceLT, reduceCtorEq, Nat.reduceMul, Nat.reduceBEq, Int.reduceEq, if_true, if_false, eq_self, ne_eq, env_bT, T_3, P22_eq, Var.pv_eq, P72_eq, GEnv.pv_eq, Ask.pv_eq, Qid.pv_eq, Dir.pv_eq, eqT_3]
    refine AW.cond (b := decide (r7 < 0)) rfl (fun hb12 => ?_) (fun hb12 => ?_)
    · replace h := bif_t hb12 h
      refine AW.seq ?_
      refine AW.reg hS [(6, .ref 0 0), (7, .pv (.int .i64 0))] [.var [.pv (.int .i64 8), .pv (.int .i64 0), .pv (.int .i64 128), .pv (.int .i64 0), .pv (.int .i64 1), .pv (.int .i64 2147484159), .pv (.int .i64 0), .pv (.int .i64 0), .pv (.int .i64 0), .pv (.str [47]), .pv (.str [115, 121, 115]), .pv (.str [115, 121, 115]), .pv (.str [])]] ?_ ?_
      · simp -implicitDefEqProofs only [RUNS, qindex, Nat.reduceAdd, Nat.reduceLeDiff, Nat.reduceSub, reduceIte, Nat.reduceEqDiff, Nat.reduceLT, reduceCtorEq, Nat.reduceMul, Nat.reduceBEq, Int.reduceEq, if_true, if_false, eq_self, ne_eq, env_bT, T_49, T_51, P22_eq, Var.pv_eq, P72_eq, GEnv.pv_eq, Ask.pv_eq, Qid.pv_eq, Dir.pv_eq, ownT_49, ownT_51]
      refine AW.ret ?_
      cases h
      show finish _ _ _ _ _ = _
      first | rfl | (simp [finish, resOf, renArgs, toPV, selObjs, sl])
    · replace h := bif_f hb12 h
      refine AW.skip ?_
      refine AW.seq ?_
      replace h := Option.bind_eq_some_iff.1 h; obtain ⟨u13, q14, h⟩ := h
      have f15 := lidx_f q14
      replace h := Option.bind_eq_some_iff.1 h; obtain ⟨u16, q17, h⟩ := h
      have f18 := lidx_f q17
      replace h := Option.bind_eq_some_iff.1 h; obtain ⟨⟨r19, r20⟩, q21, h⟩ := h
      dsimp only at h
      have f22 := c_F10 u16.values_ r19 r20 q21
      try dsimp only at f22
      refine AW.reg hS [(0, .pv (.slice (List.map GEnv.pv l1))), (2, .pv (.int .i64 id3)), (6, .ref 0 0), (8, .pv (.int .i64 r6)), (9, .pv (.int .i64 r7)), (11, .pv (.str r19))] [.var [.pv (.int .i64 0), .pv (.int .i64 0), .pv (.int .i64 0), .pv (.int .i64 0), .pv (.int .i64 0), .pv (.int .i64 0), .pv (.int .i64 0), .pv (.int .i64 0), .pv (.int .i64 0), .pv (.str []), .pv (.str []), .pv (.str []), .pv (.str [])]] ?_ ?_
      · simp -implicitDefEqProofs only [RUNS, qindex, Nat.reduceAdd, Nat.reduceLeDiff, Nat.reduceSub, reduceIte, Nat.reduceEqDiff, Nat.reduceLT, reduceCtorEq, Nat.reduceMul, Nat.reduceBEq, Int.reduceEq, if_true, if_false, eq_self, ne_eq, env_bT, T_9, T_22, T_32, T_72, T_74, T_76, P22_eq, Var.pv_eq, P72_eq, GEnv.pv_eq, Ask.pv_eq, Qid.pv_eq, Dir.pv_eq, f15.1, f15.2.1, f18.1, f18.2.1, pf_10, f22]
      refine AW.seq ?_
      refine AW.reg hS [(6, .ref 0 0), (7, .pv (.int .i64 0))] [.var [.pv (.int .i64 8), .pv (.int .i64 0), .pv (.int .i64 0), .pv (.int .i64 0), .pv (.int .i64 id3), .pv (.int .i64 438), .pv (.int .i64 0), .pv (.int .i64 0), .pv (.int .i64 (r19.length : Int)), .pv (.str u16.name_), .pv (.str [115, 121, 115]), .pv (.str [115, 121, 115]), .pv (.str [])]] ?_ ?_
      · simp -implicitDefEqProofs only [RUNS, qindex, Nat.reduceAdd, Nat.reduceLeDiff, Nat.reduceSub, reduceIte, Nat.reduceEqDiff, Nat.reduceLT, reduceCtorEq, Nat.reduceMul, Nat.reduceBEq, Int.reduceEq, if_true, if_false, eq_self, ne_eq, env_bT, T_9, T_32, T_49, T_51, T_72, T_74, T_76, P22_eq, Var.pv_eq, P72_eq, GEnv.pv_eq, Ask.pv_eq, Qid.pv_eq, Dir.pv_eq, ownT_49, f15.1, f15.2.1, f18.1, f18.2.1, ownT_51]
      refine AW.ret ?_
      cases h
      show finish _ _ _ _ _ = _
      first | rfl | (simp [finish, resOf, renArgs, toPV, selObjs, sl])

set_option maxHeartbeats 4000000 in
theorem g_F28 {O : Orc} (hS : Sound env O) (hpf : O.pf = pfn) (c_F53 : C_F53 O) (c_F59 : C_F59 O) (l1 : List GEnv) (group2 : Int) (id3 : Int) (r4 : List Dir) (r5 : Int) (h : F28 l1 group2 id3 = some (r4, r5)) : Good env 28 [.pv (.slice (List.map GEnv.pv l1)), .pv (.int .i64 group2), .pv (.int .i64 id3)] [] [.pv (.slice (List.map Dir.pv r4)), .pv (.int .i64 r5)] [] := by
  have pf_53 : O.pf 53 = true := by rw [hpf]; rfl
  have pf_59 : O.pf 59 = true := by rw [hpf]; rfl
  refine Good.start (fn := Tryd.f28) (N := 40) fn_28 rfl rfl (by simp) [] _ rfl rfl ?_
  rw [F28] at h
  refine AW.seq ?_
  refine AW.reg hS [(0, .pv (.slice (List.map GEnv.pv l1))), (1, .pv (.int .i64 group2)), (2, .pv (.int .i64 id3))] [] ?_ ?_
  · simp -implicitDefEqProofs only [RUNS, qindex, Nat.reduceAdd, Nat.reduceLeDiff, Nat.reduceSub, reduceIte, Nat.reduceEqDiff, Nat.reduceLT, reduceCtorEq, Nat.reduceMul, Nat.reduceBEq, Int.reduceEq, if_true, if_false, eq_self, ne_eq, env_bT, P22_eq, Var.pv_eq, P72_eq, GEnv.pv_eq, Ask.pv_eq, Qid.pv_eq, Dir.pv_eq]
  refine AW.seq ?_
  replace h := Option.bind_eq_some_iff.1 h; obtain ⟨⟨r6, r7⟩, q8, h⟩ := h
  dsimp only at h
  have f9 := c_F53 l1 group2 id3 r6 r7 q8
  try dsimp only at f9
  refine AW.reg hS [(0, .pv (.slice (List.map GEnv.pv l1))), (8, .pv (.int .i64 r6)), (9, .pv (.int .i64 r7))] [] ?_ ?_
  · simp -implicitDefEqProofs only [RUNS, qindex, Nat.reduceAdd, Nat.reduceLeDiff, Nat.reduceSub, reduceIte, Nat.reduceEqDiff, Nat.reduceLT, reduceCtorEq, Nat.reduceMul, Nat.reduceBEq, Int.reduceEq, if_true, if_false, eq_self, ne_eq, env_bT, T_3, T_32, T_74, P22_eq, Var.pv_eq, P72_eq, GEnv.pv_eq, Ask.pv_eq, Qid.pv_eq, Dir.pv_eq, pf_53, f9]
  refine AW.seq ?_
  refine AW.seq ?_
  refine AW.reg hS [(0, .pv (.slice (List.map GEnv.pv l1))), (8, .pv (.int .i64 r6)), (9, .pv (.int .i64 r7)), (21, .pv (.bool (!decide (r7 = 0))))] [] ?_ ?_
  · simp -implicitDefEqProofs only [RUNS, qindex, Nat.reduceAdd, Nat.reduceLeDiff, Nat.reduceSub, reduceIte, Nat.reduceEqDiff, Nat.reduceLT, reduceCtorEq, Nat.reduceMul, Nat.reduceBEq, Int.reduceEq, if_true, if_false, eq_self, ne_eq, env_bT, T_25, P22_eq, Var.pv_eq, P72_eq, GEnv.pv_eq, Ask.pv_eq, Qid.pv_eq, Dir.pv_eq, eqT_25]
  refine AW.cond (b := !decide (r7 = 0)) rfl (fun hb10 => ?_) (fun hb10 => ?_)
  · replace h := bif_t hb10 h
    refine AW.seq ?_
    refine AW.reg hS [(6, .nils), (7, .pv (.int .i64 r7))] [] ?_ ?_
    · simp -implicitDefEqProofs only [RUNS, qindex, Nat.reduceAdd, Nat.reduceLeDiff, Nat.reduceSub, reduceIte, Nat.reduceEqDiff, Nat.reduceLT, reduceCtorEq, Nat.reduceMul, Nat.reduceBEq, Int.reduceEq, if_true, if_false, eq_self, ne_eq, env_bT, P22_eq, Var.pv_eq, P72_eq, GEnv.pv_eq, Ask.pv_eq, Qid.pv_eq, Dir.pv_eq]
    refine AW.ret ?_
    cases h
    show finish _ _ _ _ _ = _
    first | rfl | (simp [finish, resOf, renArgs, toPV, selObjs, sl])
  · replace h := bif_f hb10 h
    refine AW.skip ?_
    refine AW.seq ?_
    refine AW.reg hS [(0, .pv (.slice (List.map GEnv.pv l1))), (8, .pv (.int .i64 r6)), (10, .nils)] [] ?_ ?_
    · simp -implicitDefEqProofs only [RUNS, qindex, Nat.reduceAdd, Nat.reduceLeDiff, Nat.reduceSub, reduceIte, Nat.reduceEqDiff, Nat.reduceLT, reduceCtorEq, Nat.reduceMul, Nat.reduceBEq, Int.reduceEq, if_true, if_false, eq_self, ne_eq, env_bT, P22_eq, Var.pv_eq, P72_eq, GEnv.pv_eq, Ask.pv_eq, Qid.pv_eq, Dir.pv_eq]
    refine AW.weak (Weak.own 10 51 13 (by decide) rfl) ?_
    refine AW.weak (Weak.slots (L := [(0, .pv (.slice (List.map GEnv.pv l1))), (8, .pv (.int .i64 r6)), (10, .vec 0 (List.length ([] : List Dir)))]) ⟨rfl, rfl, rfl, trivial⟩) ?_
    refine AW.seq ?_
    refine AW.seq ?_
    replace h := Option.bind_eq_some_iff.1 h; obtain ⟨u11, q12, h⟩ := h
    have f13 := lidx_f q12
    refine AW.reg hS [(10, .vec 0 (List.length ([] : List Dir))), (27, .pv (.slice (List.map Var.pv u11.vars_))), (28, .pv (.int .i64 (u11.vars_.length : Int))), (29, .pv (.int .i64 0))] [.row 51 13 (List.map Dir.pv ([] : List Dir)) true] ?_ ?_
    · simp -implicitDefEqProofs only [RUNS, qindex, Nat.reduceAdd, Nat.reduceLeDiff, Nat.reduceSub, reduceIte, Nat.reduceEqDiff, Nat.reduceLT, reduceCtorEq, Nat.reduceMul, Nat.reduceBEq, Int.reduceEq, if_true, if_false, eq_self, ne_eq, env_bT, T_32, T_72, T_74, T_76, P22_eq, Var.pv_eq, P72_eq, GEnv.pv_eq, Ask.pv_eq, Qid.pv_eq, Dir.pv_eq, f13.1, f13.2.1]
    refine AW.block ?_
    refine AW.weak (Weak.slots (L := [(10, .vec 0 (List.length ([] : List Dir))), (27, .pv (.slice (List.map Var.pv u11.vars_))), (28, .pv (.int .i64 (u11.vars_.length : Int))), (29, .pv (.int .i64 0))]) ⟨rfl, rfl, rfl, rfl, trivial⟩) ?_
    refine AW.loopI (α := Nat × Int × (List Dir)) (fun (_, i14, l15) => ⟨sl [(10, .vec 0 (List.length l15)), (27, .pv (.slice (List.map Var.pv u11.vars_))), (28, .pv (.int .i64 (u11.vars_.length : Int))), (29, .pv (.int .i64 i14))], 40, [.row 51 13 (List.map Dir.pv l15) true]⟩) (fun x => iter (F28_b1 u11) x.1 x.2 = some (r4, r5)) (fun x => x.1) (BIG, (0, ([] : List Dir))) h ?_
    clear h
    intro ⟨n29, i14, l15⟩ h
    replace h := iter_some h; obtain ⟨m18, rfl, h⟩ := h
    rw [F28_b1] at h
    try dsimp only at h
    show AW _ _ _ _ ⟨sl [(10, .vec 0 (List.length l15)), (27, .pv (.slice (List.map Var.pv u11.vars_))), (28, .pv (.int .i64 (u11.vars_.length : Int))), (29, .pv (.int .i64 i14))], 40, [.row 51 13 (List.map Dir.pv l15) true]⟩
    refine AW.seq ?_
    refine AW.reg hS [(10, .vec 0 (List.length l15)), (27, .pv (.slice (List.map Var.pv u11.vars_))), (28, .pv (.int .i64 (u11.vars_.length : Int))), (29, .pv (.int .i64 i14)), (30, .pv (.bool (decide (i14 < (u11.vars_.length : Int)))))] [.row 51 13 (List.map Dir.pv l15) true] ?_ ?_
    · simp -implicitDefEqProofs only [RUNS, qindex, Nat.reduceAdd, Nat.reduceLeDiff, Nat.reduceSub, reduceIte, Nat.reduceEqDiff, Nat.reduceLT, reduceCtorEq, Nat.reduceMul, Nat.reduceBEq, Int.reduceEq, if_true, if_false, eq_self, ne_eq, env_bT, T_3, P22_eq, Var.pv_eq, P72_eq, GEnv.pv_eq, Ask.pv_eq, Qid.pv_eq, Dir.pv_eq, eqT_3]
    refine AW.seq ?_
    refine AW.cond (b := decide (i14 < (u11.vars_.length : Int))) rfl (fun hb19 => ?_) (fun hb19 => ?_)
    · replace h := bif_t hb19 h
      refine AW.skip ?_
      refine AW.seq ?_
      refine AW.block ?_
      refine AW.seq ?_
      replace h := Option.bind_eq_some_iff.1 h; obtain ⟨u20, q21, h⟩ := h
      have f22 := lidx_f q21
      refine AW.reg hS [(10, .vec 0 (List.length l15)), (12, .ref 1 0), (27, .pv (.slice (List.map Var.pv u11.vars_))), (28, .pv (.int .i64 (u11.vars_.length : Int))), (29, .pv (.int .i64 i14))] [.row 51 13 (List.map Dir.pv l15) true, .var [.pv (.int .i64 u20.id_), .pv (.str u20.name_), .pv (.slice (List.map PV.str u20.values_))]] ?_ ?_
      · simp -implicitDefEqProofs only [RUNS, qindex, Nat.reduceAdd, Nat.reduceLeDiff, Nat.reduceSub, reduceIte, Nat.reduceEqDiff, Nat.reduceLT, reduceCtorEq, Nat.reduceMul, Nat.reduceBEq, Int.reduceEq, if_true, if_false, eq_self, ne_eq, env_bT, T_72, T_76, P22_eq, Var.pv_eq, P72_eq, GEnv.pv_eq, Ask.pv_eq, Qid.pv_eq, Dir.pv_eq, f22.1, f22.2.1]
      replace h := Option.bind_eq_some_iff.1 h; obtain ⟨r23, q24, h⟩ := h
      have f25 := c_F59 u20 r23 q24
      try dsimp only at f25
      replace h := Option.bind_eq_some_iff.1 h; obtain ⟨out26, q27, h⟩ := h
      have f28 := appO_f q27
      try simp only [List.length_cons, List.length_nil, List.length_replicate, Nat.zero_add, Nat.reduceAdd, Nat.reduceLeDiff, Nat.add_zero, Nat.reduceMul] at f28
      refine AW.reg hS [(10, .vec 0 (List.length out26)), (27, .pv (.slice (List.map Var.pv u11.vars_))), (28, .pv (.int .i64 (u11.vars_.length : Int))), (29, .pv (.int .i64 i14))] [.row 51 13 (List.map Dir.pv out26) true, .var [.pv (.int .i64 u20.id_), .pv (.str u20.name_), .pv (.slice (List.map PV.str u20.values_))]] ?_ ?_
      · simp -implicitDefEqProofs only [RUNS, qindex, Nat.reduceAdd, Nat.reduceLeDiff, Nat.reduceSub, reduceIte, Nat.reduceEqDiff, Nat.reduceLT, reduceCtorEq, Nat.reduceMul, Nat.reduceBEq, Int.reduceEq, if_true, if_false, eq_self, ne_eq, env_bT, T_51, T_54, T_76, P22_eq, Var.pv_eq, P72_eq, GEnv.pv_eq, Ask.pv_eq, Qid.pv_eq, Dir.pv_eq, pf_59, f25, ownT_54, f28.1, f28.2, Dir.all] <;> (try simp only [List.length_take, List.length_drop, List.length_map])
      clear f28
      refine AW.reg hS [(10, .vec 0 (List.length out26)), (27, .pv (.slice (List.map Var.pv u11.vars_))), (28, .pv (.int .i64 (u11.vars_.length : Int))), (29, .pv (.int .i64 (IntKind.wrap .i64 (i14 + 1))))] [.row 51 13 (List.map Dir.pv out26) true, .var [.pv (.int .i64 u20.id_), .pv (.str u20.name_), .pv (.slice (List.map PV.str u20.values_))]] ?_ ?_
      · simp -implicitDefEqProofs only [RUNS, qindex, Nat.reduceAdd, Nat.reduceLeDiff, Nat.reduceSub, reduceIte, Nat.reduceEqDiff, Nat.reduceLT, reduceCtorEq, Nat.reduceMul, Nat.reduceBEq, Int.reduceEq, if_true, if_false, eq_self, ne_eq, env_bT, T_3, P22_eq, Var.pv_eq, P72_eq, GEnv.pv_eq, Ask.pv_eq, Qid.pv_eq, Dir.pv_eq, eqT_3]
      exact ⟨(m18, (IntKind.wrap .i64 (i14 + 1), out26)), h, (Weak.norm (m := 1) (Nat.le_of_ble_eq_true rfl) ⟨rfl, rfl, rfl, rfl, trivial⟩ rfl rfl rfl), Nat.lt_succ_self _⟩
    · replace h := bif_f hb19 h
      refine AW.exit ?_
      refine AW.seq ?_
      refine AW.reg hS [(6, .vec 0 (List.length l15)), (7, .pv (.int .i64 0))] [.row 51 13 (List.map Dir.pv l15) true] ?_ ?_
      · simp -implicitDefEqProofs only [RUNS, qindex, Nat.reduceAdd, Nat.reduceLeDiff, Nat.reduceSub, reduceIte, Nat.reduceEqDiff, Nat.reduceLT, reduceCtorEq, Nat.reduceMul, Nat.reduceBEq, Int.reduceEq, if_true, if_false, eq_self, ne_eq, env_bT, P22_eq, Var.pv_eq, P72_eq, GEnv.pv_eq, Ask.pv_eq, Qid.pv_eq, Dir.pv_eq]
      refine AW.ret ?_
      cases h
      show finish _ _ _ _ _ = _
      first | rfl | (simp [finish, resOf, renArgs, toPV, selObjs, sl])

set_option maxHeartbeats 4000000 in
theorem g_F29 {O : Orc} (hS : Sound env O) (hpf : O.pf = pfn) (c_F54 : C_F54 O) (c_F27 : C_F27 O) (l1 : List GEnv) (group2 : Int) (id3 : Int) (r4 : List Dir) (r5 : Int) (h : F29 l1 group2 id3 = some (r4, r5)) : Good env 29 [.pv (.slice (List.map GEnv.pv l1)), .pv (.int .i64 group2), .pv (.int .i64 id3)] [] [.pv (.slice (List.map Dir.pv r4)), .pv (.int .i64 r5)] [] := by
  have pf_27 : O.pf 27 = true := by rw [hpf]; rfl
  have pf_54 : O.pf 54 = true := by rw [hpf]; rfl
  refine Good.start (fn := Tryd.f29) (N := 57) fn_29 rfl rfl (by simp) [] _ rfl rfl ?_
  rw [F29] at h
  refine AW.seq ?_
  refine AW.reg hS [(0, .pv (.slice (List.map GEnv.pv l1))), (1, .pv (.int .i64 group2)), (2, .pv (.int .i64 id3))] [] ?_ ?_
  · simp -implicitDefEqProofs only [RUNS, qindex, Nat.reduceAdd, Nat.reduceLeDiff, Nat.reduceSub, reduceIte, Nat.reduceEqDiff, Nat.reduceLT, reduceCtorEq, Nat.reduceMul, Nat.reduceBEq, Int.reduceEq, if_true, if_false, eq_self, ne_eq, env_bT, P22_eq, Var.pv_eq, P72_eq, GEnv.pv_eq, Ask.pv_eq, Qid.pv_eq, Dir.pv_eq]
  refine AW.seq ?_
  replace h := Option.bind_eq_some_iff.1 h; obtain ⟨⟨r6, r7, r8⟩, q9, h⟩ := h
  dsimp only at h
  have f10 := c_F54 l1 group2 id3 r6 r7 r8 q9
  try dsimp only at f10
  refine AW.reg hS [(0, .pv (.slice (List.map GEnv.pv l1))), (1, .pv (.int .i64 group2)), (8, .pv (.int .i64 r6)), (9, .pv (.int .i64 r7)), (10, .pv (.bool r8))] [] ?_ ?_
  · simp -implicitDefEqProofs only [RUNS, qindex, Nat.reduceAdd, Nat.reduceLeDiff, Nat.reduceSub, reduceIte, Nat.reduceEqDiff, Nat.reduceLT, reduceCtorEq, Nat.reduceMul, Nat.reduceBEq, Int.reduceEq, if_true, if_false, eq_self, ne_eq, env_bT, T_3, T_32, T_74, P22_eq, Var.pv_eq, P72_eq, GEnv.pv_eq, Ask.pv_eq, Qid.pv_eq, Dir.pv_eq, pf_54, f10]
  refine AW.seq ?_
  refine AW.seq ?_
  refine AW.reg hS [(0, .pv (.slice (List.map GEnv.pv l1))), (1, .pv (.int .i64 group2)), (8, .pv (.int .i64 r6)), (9, .pv (.int .i64 r7)), (24, .pv (.bool (!r8)))] [] ?_ ?_
  · simp -implicitDefEqProofs only [RUNS, qindex, Nat.reduceAdd, Nat.reduceLeDiff, Nat.reduceSub, reduceIte, Nat.reduceEqDiff, Nat.reduceLT, reduceCtorEq, Nat.reduceMul, Nat.reduceBEq, Int.reduceEq, if_true, if_false, eq_self, ne_eq, env_bT, P22_eq, Var.pv_eq, P72_eq, GEnv.pv_eq, Ask.pv_eq, Qid.pv_eq, Dir.pv_eq]
  refine AW.cond (b := !r8) rfl (fun hb11 => ?_) (fun hb11 => ?_)
  · replace h := bif_t hb11 h
    refine AW.seq ?_
    refine AW.reg hS [(6, .nils), (7, .pv (.int .i64 8))] [] ?_ ?_
    · simp -implicitDefEqProofs only [RUNS, qindex, Nat.reduceAdd, Nat.reduceLeDiff, Nat.reduceSub, reduceIte, Nat.reduceEqDiff, Nat.reduceLT, reduceCtorEq, Nat.reduceMul, Nat.reduceBEq, Int.reduceEq, if_true, if_false, eq_self, ne_eq, env_bT, P22_eq, Var.pv_eq, P72_eq, GEnv.pv_eq, Ask.pv_eq, Qid.pv_eq, Dir.pv_eq]
    refine AW.ret ?_
    cases h
    show finish _ _ _ _ _ = _
    first | rfl | (simp [finish, resOf, renArgs, toPV, selObjs, sl])
  · replace h := bif_f hb11 h
    refine AW.skip ?_
    refine AW.seq ?_
    refine AW.seq ?_
    refine AW.reg hS [(0, .pv (.slice (List.map GEnv.pv l1))), (1, .pv (.int .i64 group2)), (8, .pv (.int .i64 r6)), (26, .pv (.bool (decide (0 ≤ r7))))] [] ?_ ?_
    · simp -implicitDefEqProofs only [RUNS, qindex, Nat.reduceAdd, Nat.reduceLeDiff, Nat.reduceSub, reduceIte, Nat.reduceEqDiff, Nat.reduceLT, reduceCtorEq, Nat.reduceMul, Nat.reduceBEq, Int.reduceEq, if_true, if_false, eq_self, ne_eq, env_bT, T_3, P22_eq, Var.pv_eq, P72_eq, GEnv.pv_eq, Ask.pv_eq, Qid.pv_eq, Dir.pv_eq, eqT_3]
    refine AW.cond (b := decide (0 ≤ r7)) rfl (fun hb12 => ?_) (fun hb12 => ?_)
    · replace h := bif_t hb12 h
      refine AW.seq ?_
      refine AW.reg hS [(6, .nils), (7, .pv (.int .i64 9))] [] ?_ ?_
      · simp -implicitDefEqProofs only [RUNS, qindex, Nat.reduceAdd, Nat.reduceLeDiff, Nat.reduceSub, reduceIte, Nat.reduceEqDiff, Nat.reduceLT, reduceCtorEq, Nat.reduceMul, Nat.reduceBEq, Int.reduceEq, if_true, if_false, eq_self, ne_eq, env_bT, P22_eq, Var.pv_eq, P72_eq, GEnv.pv_eq, Ask.pv_eq, Qid.pv_eq, Dir.pv_eq]
      refine AW.ret ?_
      cases h
      show finish _ _ _ _ _ = _
      first | rfl | (simp [finish, resOf, renArgs, toPV, selObjs, sl])
    · replace h := bif_f hb12 h
      refine AW.skip ?_
      refine AW.seq ?_
      refine AW.reg hS [(0, .pv (.slice (List.map GEnv.pv l1))), (1, .pv (.int .i64 group2)), (8, .pv (.int .i64 r6)), (11, .nils)] [] ?_ ?_
      · simp -implicitDefEqProofs only [RUNS, qindex, Nat.reduceAdd, Nat.reduceLeDiff, Nat.reduceSub, reduceIte, Nat.reduceEqDiff, Nat.reduceLT, reduceCtorEq, Nat.reduceMul, Nat.reduceBEq, Int.reduceEq, if_true, if_false, eq_self, ne_eq, env_bT, P22_eq, Var.pv_eq, P72_eq, GEnv.pv_eq, Ask.pv_eq, Qid.pv_eq, Dir.pv_eq]
      refine AW.weak (Weak.own 11 51 13 (by decide) rfl) ?_
      refine AW.weak (Weak.slots (L := [(0, .pv (.slice (List.map GEnv.pv l1))), (1, .pv (.int .i64 group2)), (8, .pv (.int .i64 r6)), (11, .vec 0 (List.length ([] : List Dir)))]) ⟨rfl, rfl, rfl, rfl, trivial⟩) ?_
      refine AW.seq ?_
      refine AW.seq ?_
      refine AW.reg hS [(0, .pv (.slice (List.map GEnv.pv l1))), (1, .pv (.int .i64 group2)), (8, .pv (.int .i64 r6)), (11, .vec 0 (List.length ([] : List Dir))), (12, .pv (.int .i64 0))] [.row 51 13 (List.map Dir.pv ([] : List Dir)) true] ?_ ?_
      · simp -implicitDefEqProofs only [RUNS, qindex, Nat.reduceAdd, Nat.reduceLeDiff, Nat.reduceSub, reduceIte, Nat.reduceEqDiff, Nat.reduceLT, reduceCtorEq, Nat.reduceMul, Nat.reduceBEq, Int.reduceEq, if_true, if_false, eq_self, ne_eq, env_bT, P22_eq, Var.pv_eq, P72_eq, GEnv.pv_eq, Ask.pv_eq, Qid.pv_eq, Dir.pv_eq]
      refine AW.block ?_
      refine AW.weak (Weak.slots (L := [(0, .pv (.slice (List.map GEnv.pv l1))), (1, .pv (.int .i64 group2)), (8, .pv (.int .i64 r6)), (11, .vec 0 (List.length ([] : List Dir))), (12, .pv (.int .i64 0))]) ⟨rfl, rfl, rfl, rfl, rfl, trivial⟩) ?_
      refine AW.loopI (α := Nat × Int × (List Dir)) (fun (_, n13, l14) => ⟨sl [(0, .pv (.slice (List.map GEnv.pv l1))), (1, .pv (.int .i64 group2)), (8, .pv (.int .i64 r6)), (11, .vec 0 (List.length l14)), (12, .pv (.int .i64 n13))], 57, [.row 51 13 (List.map Dir.pv l14) true]⟩) (fun x => iter (F29_b1 l1 r6 group2) x.1 x.2 = some (r4, r5)) (fun x => x.1) (BIG, (0, ([] : List Dir))) h ?_
      clear h
      intro ⟨n32, n13, l14⟩ h
      replace h := iter_some h; obtain ⟨m17, rfl, h⟩ := h
      rw [F29_b1] at h
      try dsimp only at h
      show AW _ _ _ _ ⟨sl [(0, .pv (.slice (List.map GEnv.pv l1))), (1, .pv (.int .i64 group2)), (8, .pv (.int .i64 r6)), (11, .vec 0 (List.length l14)), (12, .pv (.int .i64 n13))], 57, [.row 51 13 (List.map Dir.pv l14) true]⟩
      refine AW.seq ?_
      refine AW.seq ?_
      replace h := Option.bind_eq_some_iff.1 h; obtain ⟨u18, q19, h⟩ := h
      have f20 := lidx_f q19
      refine AW.reg hS [(0, .pv (.slice (List.map GEnv.pv l1))), (1, .pv (.int .i64 group2)), (8, .pv (.int .i64 r6)), (11, .vec 0 (List.length l14)), (12, .pv (.int .i64 n13)), (34, .pv (.bool (decide (n13 < (u18.vars_.length : Int)))))] [.row 51 13 (List.map Dir.pv l14) true] ?_ ?_
      · simp -implicitDefEqProofs only [RUNS, qindex, Nat.reduceAdd, Nat.reduceLeDiff, Nat.reduceSub, reduceIte, Nat.reduceEqDiff, Nat.reduceLT, reduceCtorEq, Nat.reduceMul, Nat.reduceBEq, Int.reduceEq, if_true, if_false, eq_self, ne_eq, env_bT, T_3, T_32, T_72, T_74, T_76, P22_eq, Var.pv_eq, P72_eq, GEnv.pv_eq, Ask.pv_eq, Qid.pv_eq, Dir.pv_eq, f20.1, f20.2.1, eqT_3]
      refine AW.cond (b := decide (n13 < (u18.vars_.length : Int))) rfl (fun hb21 => ?_) (fun hb21 => ?_)
      · replace h := bif_t hb21 h
        refine AW.skip ?_
        refine AW.seq ?_
        refine AW.block ?_
        refine AW.seq ?_
        replace h := Option.bind_eq_some_iff.1 h; obtain ⟨u22, q23, h⟩ := h
        have f24 := lidx_f q23
        replace h := Option.bind_eq_some_iff.1 h; obtain ⟨⟨r25, r26⟩, q27, h⟩ := h
        dsimp only at h
        have f28 := c_F27 l1 group2 u22.id_ r25 r26 q27
        try dsimp only at f28
        refine AW.reg hS [(0, .pv (.slice (List.map GEnv.pv l1))), (1, .pv (.int .i64 group2)), (8, .pv (.int .i64 r6)), (11, .vec 0 (List.length l14)), (12, .pv (.int .i64 n13)), (13, .ref 1 0)] [.row 51 13 (List.map Dir.pv l14) true, .var [.pv (.int .i64 r25.type_), .pv (.int .i64 r25.dev_), .pv (.int .i64 r25.qid_.type_), .pv (.int .i64 r25.qid_.vers_), .pv (.int .i64 r25.qid_.path_), .pv (.int .i64 r25.mode_), .pv (.int .i64 r25.atime_), .pv (.int .i64 r25.mtime_), .pv (.int .i64 r25.length_), .pv (.str r25.name_), .pv (.str r25.uid_), .pv (.str r25.gid_), .pv (.str r25.muid_)]] ?_ ?_
        · simp -implicitDefEqProofs only [RUNS, qindex, Nat.reduceAdd, Nat.reduceLeDiff, Nat.reduceSub, reduceIte, Nat.reduceEqDiff, Nat.reduceLT, reduceCtorEq, Nat.reduceMul, Nat.reduceBEq, Int.reduceEq, if_true, if_false, eq_self, ne_eq, env_bT, T_3, T_32, T_51, T_72, T_74, T_76, P22_eq, Var.pv_eq, P72_eq, GEnv.pv_eq, Ask.pv_eq, Qid.pv_eq, Dir.pv_eq, f20.1, f20.2.1, f24.1, f24.2.1, pf_27, f28]
        replace h := Option.bind_eq_some_iff.1 h; obtain ⟨out29, q30, h⟩ := h
        have f31 := appO_f q30
        try simp only [List.length_cons, List.length_nil, List.length_replicate, Nat.zero_add, Nat.reduceAdd, Nat.reduceLeDiff, Nat.add_zero, Nat.reduceMul] at f31
        refine AW.reg hS [(0, .pv (.slice (List.map GEnv.pv l1))), (1, .pv (.int .i64 group2)), (8, .pv (.int .i64 r6)), (11, .vec 0 (List.length out29)), (12, .pv (.int .i64 n13))] [.row 51 13 (List.map Dir.pv out29) true, .var [.pv (.int .i64 r25.type_), .pv (.int .i64 r25.dev_), .pv (.int .i64 r25.qid_.type_), .pv (.int .i64 r25.qid_.vers_), .pv (.int .i64 r25.qid_.path_), .pv (.int .i64 r25.mode_), .pv (.int .i64 r25.atime_), .pv (.int .i64 r25.mtime_), .pv (.int .i64 r25.length_), .pv (.str r25.name_), .pv (.str r25.uid_), .pv (.str r25.gid_), .pv (.str r25.muid_)]] ?_ ?_
        · simp -implicitDefEqProofs only [RUNS, qindex, Nat.reduceAdd, Nat.reduceLeDiff, Nat.reduceSub, reduceIte, Nat.reduceEqDiff, Nat.reduceLT, reduceCtorEq, Nat.reduceMul, Nat.reduceBEq, Int.reduceEq, if_true, if_false, eq_self, ne_eq, env_bT, T_51, T_54, P22_eq, Var.pv_eq, P72_eq, GEnv.pv_eq, Ask.pv_eq, Qid.pv_eq, Dir.pv_eq, ownT_54, f31.1, f31.2, Dir.all] <;> (try simp only [List.length_take, List.length_drop, List.length_map])
        clear f31
        refine AW.reg hS [(0, .pv (.slice (List.map GEnv.pv l1))), (1, .pv (.int .i64 group2)), (8, .pv (.int .i64 r6)), (11, .vec 0 (List.length out29)), (12, .pv (.int .i64 (IntKind.wrap .i64 (n13 + 1))))] [.row 51 13 (List.map Dir.pv out29) true, .var [.pv (.int .i64 r25.type_), .pv (.int .i64 r25.dev_), .pv (.int .i64 r25.qid_.type_), .pv (.int .i64 r25.qid_.vers_), .pv (.int .i64 r25.qid_.path_), .pv (.int .i64 r25.mode_), .pv (.int .i64 r25.atime_), .pv (.int .i64 r25.mtime_), .pv (.int .i64 r25.length_), .pv (.str r25.name_), .pv (.str r25.uid_), .pv (.str r25.gid_), .pv (.str r25.muid_)]] ?_ ?_
        · simp -implicitDefEqProofs only [RUNS, qindex, Nat.reduceAdd, Nat.reduceLeDiff, Nat.reduceSub, reduceIte, Nat.reduceEqDiff, Nat.reduceLT, reduceCtorEq, Nat.reduceMul, Nat.reduceBEq, Int.reduceEq, if_true, if_false, eq_self, ne_eq, env_bT, T_3, P22_eq, Var.pv_eq, P72_eq, GEnv.pv_eq, Ask.pv_eq, Qid.pv_eq, Dir.pv_eq, eqT_3]
        exact ⟨(m17, (IntKind.wrap .i64 (n13 + 1), out29)), h, (Weak.norm (m := 1) (Nat.le_of_ble_eq_true rfl) ⟨rfl, rfl, rfl, rfl, rfl, trivial⟩ rfl rfl rfl), Nat.lt_succ_self _⟩
      · replace h := bif_f hb21 h
        refine AW.exit ?_
        refine AW.seq ?_
        refine AW.reg hS [(6, .vec 0 (List.length l14)), (7, .pv (.int .i64 0))] [.row 51 13 (List.map Dir.pv l14) true] ?_ ?_
        · simp -implicitDefEqProofs only [RUNS, qindex, Nat.reduceAdd, Nat.reduceLeDiff, Nat.reduceSub, reduceIte, Nat.reduceEqDiff, Nat.reduceLT, reduceCtorEq, Nat.reduceMul, Nat.reduceBEq, Int.reduceEq, if_true, if_false, eq_self, ne_eq, env_bT, P22_eq, Var.pv_eq, P72_eq, GEnv.pv_eq, Ask.pv_eq, Qid.pv_eq, Dir.pv_eq]
        refine AW.ret ?_
        cases h
        show finish _ _ _ _ _ = _
        first | rfl | (simp [finish, resOf, renArgs, toPV, selObjs, sl])

set_option maxHeartbeats 4000000 in
theorem g_F30 {O : Orc} (hS : Sound env O) (hpf : O.pf = pfn) (a1 : List Dir) (b2 : List Dir) (r3 : Bool) (h : F30 a1 b2 = some r3) : Good env 30 [.pv (.slice (List.map Dir.pv a1)), .pv (.slice (List.map Dir.pv b2))] [] [.pv (.bool r3)] [] := by
  refine Good.start (fn := Tryd.f30) (N := 26) fn_30 rfl rfl (by simp) [] _ rfl rfl ?_
  rw [F30] at h
  refine AW.seq ?_
  refine AW.reg hS [(0, .pv (.slice (List.map Dir.pv a1))), (1, .pv (.slice (List.map Dir.pv b2)))] [] ?_ ?_
  · simp -implicitDefEqProofs only [RUNS, qindex, Nat.reduceAdd, Nat.reduceLeDiff, Nat.reduceSub, reduceIte, Nat.reduceEqDiff, Nat.reduceLT, reduceCtorEq, Nat.reduceMul, Nat.reduceBEq, Int.reduceEq, if_true, if_false, eq_self, ne_eq, env_bT, P22_eq, Var.pv_eq, P72_eq, GEnv.pv_eq, Ask.pv_eq, Qid.pv_eq, Dir.pv_eq]
  refine AW.seq ?_
  refine AW.seq ?_
  refine AW.reg hS [(0, .pv (.slice (List.map Dir.pv a1))), (1, .pv (.slice (List.map Dir.pv b2))), (10, .pv (.bool (!decide ((a1.length : Int) = (b2.length : Int)))))] [] ?_ ?_
  · simp -implicitDefEqProofs only [RUNS, qindex, Nat.reduceAdd, Nat.reduceLeDiff, Nat.reduceSub, reduceIte, Nat.reduceEqDiff, Nat.reduceLT, reduceCtorEq, Nat.reduceMul, Nat.reduceBEq, Int.reduceEq, if_true, if_false, eq_self, ne_eq, env_bT, T_3, T_51, T_54, P22_eq, Var.pv_eq, P72_eq, GEnv.pv_eq, Ask.pv_eq, Qid.pv_eq, Dir.pv_eq, eqT_3]
  refine AW.cond (b := !decide ((a1.length : Int) = (b2.length : Int))) rfl (fun hb4 => ?_) (fun hb4 => ?_)
  · replace h := bif_t hb4 h
    refine AW.seq ?_
    refine AW.reg hS [(4, .pv (.bool false))] [] ?_ ?_
    · simp -implicitDefEqProofs only [RUNS, qindex, Nat.reduceAdd, Nat.reduceLeDiff, Nat.reduceSub, reduceIte, Nat.reduceEqDiff, Nat.reduceLT, reduceCtorEq, Nat.reduceMul, Nat.reduceBEq, Int.reduceEq, if_true, if_false, eq_self, ne_eq, env_bT, P22_eq, Var.pv_eq, P72_eq, GEnv.pv_eq, Ask.pv_eq, Qid.pv_eq, Dir.pv_eq]
    refine AW.ret ?_
    cases h
    show finish _ _ _ _ _ = _
    first | rfl | (simp [finish, resOf, renArgs, toPV, selObjs, sl])
  · replace h := bif_f hb4 h
    refine AW.skip ?_
    refine AW.seq ?_
    refine AW.seq ?_
    refine AW.reg hS [(0, .pv (.slice (List.map Dir.pv a1))), (1, .pv (.slice (List.map Dir.pv b2))), (5, .pv (.int .i64 0))] [] ?_ ?_
    · simp -implicitDefEqProofs only [RUNS, qindex, Nat.reduceAdd, Nat.reduceLeDiff, Nat.reduceSub, reduceIte, Nat.reduceEqDiff, Nat.reduceLT, reduceCtorEq, Nat.reduceMul, Nat.reduceBEq, Int.reduceEq, if_true, if_false, eq_self, ne_eq, env_bT, P22_eq, Var.pv_eq, P72_eq, GEnv.pv_eq, Ask.pv_eq, Qid.pv_eq, Dir.pv_eq]
    refine AW.block ?_
    refine AW.weak (Weak.slots (L := [(0, .pv (.slice (List.map Dir.pv a1))), (1, .pv (.slice (List.map Dir.pv b2))), (5, .pv (.int .i64 0))]) ⟨rfl, rfl, rfl, trivial⟩) ?_
    refine AW.loopI (α := Nat × Int) (fun (_, i5) => ⟨sl [(0, .pv (.slice (List.map Dir.pv a1))), (1, .pv (.slice (List.map Dir.pv b2))), (5, .pv (.int .i64 i5))], 26, []⟩) (fun x => iter (F30_b1 a1 b2) x.1 x.2 = some r3) (fun x => x.1) (BIG, 0) h ?_
    clear h
    intro ⟨n17, i5⟩ h
    replace h := iter_some h; obtain ⟨m8, rfl, h⟩ := h
    rw [F30_b1] at h
    try dsimp only at h
    show AW _ _ _ _ ⟨sl [(0, .pv (.slice (List.map Dir.pv a1))), (1, .pv (.slice (List.map Dir.pv b2))), (5, .pv (.int .i64 i5))], 26, []⟩
    refine AW.seq ?_
    refine AW.seq ?_
    refine AW.reg hS [(0, .pv (.slice (List.map Dir.pv a1))), (1, .pv (.slice (List.map Dir.pv b2))), (5, .pv (.int .i64 i5)), (14, .pv (.bool (decide (i5 < (a1.length : Int)))))] [] ?_ ?_
    · simp -implicitDefEqProofs only [RUNS, qindex, Nat.reduceAdd, Nat.reduceLeDiff, Nat.reduceSub, reduceIte, Nat.reduceEqDiff, Nat.reduceLT, reduceCtorEq, Nat.reduceMul, Nat.reduceBEq, Int.reduceEq, if_true, if_false, eq_self, ne_eq, env_bT, T_3, T_51, T_54, P22_eq, Var.pv_eq, P72_eq, GEnv.pv_eq, Ask.pv_eq, Qid.pv_eq, Dir.pv_eq, eqT_3]
    refine AW.cond (b := decide (i5 < (a1.length : Int))) rfl (fun hb9 => ?_) (fun hb9 => ?_)
    · replace h := bif_t hb9 h
      refine AW.skip ?_
      refine AW.seq ?_
      refine AW.block ?_
      refine AW.seq ?_
      replace h := Option.bind_eq_some_iff.1 h; obtain ⟨u10, q11, h⟩ := h
      have f12 := lidx_f q11
      replace h := Option.bind_eq_some_iff.1 h; obtain ⟨u13, q14, h⟩ := h
      have f15 := lidx_f q14
      refine AW.dreg mixed hS (hpf ▸ (by kernel_rfl : orderOK pfn _ = true)) [(0, .pv (.slice (List.map Dir.pv a1))), (1, .pv (.slice (List.map Dir.pv b2))), (5, .pv (.int .i64 i5)), (25, .pv (.bool (!(decide (u10.type_ = u13.type_) && (decide (u10.dev_ = u13.dev_) && (decide (u10.qid_.type_ = u13.qid_.type_) && (decide (u10.qid_.vers_ = u13.qid_.vers_) && (decide (u10.qid_.path_ = u13.qid_.path_) && (decide (u10.mode_ = u13.mode_) && (decide (u10.atime_ = u13.atime_) && (decide (u10.mtime_ = u13.mtime_) && (decide (u10.length_ = u13.length_) && (decide (u10.name_ = u13.name_) && (decide (u10.uid_ = u13.uid_) && (decide (u10.gid_ = u13.gid_) && (decide (u10.muid_ = u13.muid_)))))))))))))))))] [] ?_ ?_
      · simp -implicitDefEqProofs only [RUNS, qindex, Nat.reduceAdd, Nat.reduceLeDiff, Nat.reduceSub, reduceIte, Nat.reduceEqDiff, Nat.reduceLT, reduceCtorEq, Nat.reduceMul, Nat.reduceBEq, Int.reduceEq, if_true, if_false, eq_self, ne_eq, env_bT, T_51, T_54, P22_eq, Var.pv_eq, P72_eq, GEnv.pv_eq, Ask.pv_eq, Qid.pv_eq, Dir.pv_eq, f12.1, f12.2.1, f15.1, f15.2.1, eqT_51]
      refine AW.cond (b := !(decide (u10.type_ = u13.type_) && (decide (u10.dev_ = u13.dev_) && (decide (u10.qid_.type_ = u13.qid_.type_) && (decide (u10.qid_.vers_ = u13.qid_.vers_) && (decide (u10.qid_.path_ = u13.qid_.path_) && (decide (u10.mode_ = u13.mode_) && (decide (u10.atime_ = u13.atime_) && (decide (u10.mtime_ = u13.mtime_) && (decide (u10.length_ = u13.length_) && (decide (u10.name_ = u13.name_) && (decide (u10.uid_ = u13.uid_) && (decide (u10.gid_ = u13.gid_) && (decide (u10.muid_ = u13.muid_))))))))))))))) rfl (fun hb16 => ?_) (fun hb16 => ?_)
      · replace h := bif_t hb16 h
        refine AW.seq ?_
        refine AW.reg hS [(4, .pv (.bool false))] [] ?_ ?_
        · simp -implicitDefEqProofs only [RUNS, qindex, Nat.reduceAdd, Nat.reduceLeDiff, Nat.reduceSub, reduceIte, Nat.reduceEqDiff, Nat.reduceLT, reduceCtorEq, Nat.reduceMul, Nat.reduceBEq, Int.reduceEq, if_true, if_false, eq_self, ne_eq, env_bT, P22_eq, Var.pv_eq, P72_eq, GEnv.pv_eq, Ask.pv_eq, Qid.pv_eq, Dir.pv_eq]
        refine AW.ret ?_
        cases h
        show finish _ _ _ _ _ = _
        first | rfl | (simp [finish, resOf, renArgs, toPV, selObjs, sl])
      · replace h := bif_f hb16 h
        refine AW.skip ?_
        refine AW.reg hS [(0, .pv (.slice (List.map Dir.pv a1))), (1, .pv (.slice (List.map Dir.pv b2))), (5, .pv (.int .i64 (IntKind.wrap .i64 (i5 + 1))))] [] ?_ ?_
        · simp -implicitDefEqProofs only [RUNS, qindex, Nat.reduceAdd, Nat.reduceLeDiff, Nat.reduceSub, reduceIte, Nat.reduceEqDiff, Nat.reduceLT, reduceCtorEq, Nat.reduceMul, Nat.reduceBEq, Int.reduceEq, if_true, if_false, eq_self, ne_eq, env_bT, T_3, P22_eq, Var.pv_eq, P72_eq, GEnv.pv_eq, Ask.pv_eq, Qid.pv_eq, Dir.pv_eq, eqT_3]
        exact ⟨(m8, IntKind.wrap .i64 (i5 + 1)), h, (Weak.norm (m := 0) (Nat.le_of_ble_eq_true rfl) ⟨rfl, rfl, rfl, trivial⟩ rfl rfl rfl), Nat.lt_succ_self _⟩
    · replace h := bif_f hb9 h
      refine AW.exit ?_
      refine AW.seq ?_
      refine AW.reg hS [(4, .pv (.bool true))] [] ?_ ?_
      · simp -implicitDefEqProofs only [RUNS, qindex, Nat.reduceAdd, Nat.reduceLeDiff, Nat.reduceSub, reduceIte, Nat.reduceEqDiff, Nat.reduceLT, reduceCtorEq, Nat.reduceMul, Nat.reduceBEq, Int.reduceEq, if_true, if_false, eq_self, ne_eq, env_bT, P22_eq, Var.pv_eq, P72_eq, GEnv.pv_eq, Ask.pv_eq, Qid.pv_eq, Dir.pv_eq]
      refine AW.ret ?_
      cases h
      show finish _ _ _ _ _ = _
      first | rfl | (simp [finish, resOf, renArgs, toPV, selObjs, sl])

set_option maxHeartbeats 4000000 in
theorem g_F5 {O : Orc} (hS : Sound env O) (hpf : O.pf = pfn) (c_F14 : C_F14 O) (c_F8 : C_F8 O) (c_F16 : C_F16 O) (c_F20 : C_F20 O) (c_F19 : C_F19 O) (c_F21 : C_F21 O) (c_F22 : C_F22 O) (c_F23 : C_F23 O) (c_F24 : C_F24 O) (c_F25 : C_F25 O) (c_F26 : C_F26 O) (c_F27 : C_F27 O) (c_F28 : C_F28 O) (c_F29 : C_F29 O) (c_F13 : C_F13 O) (c_F30 : C_F30 O) (l1 : List GEnv) (x2 : Ask) (r3 : Bool) (h : F5 l1 x2 = some r3) : Good env 5 [.pv (.slice (List.map GEnv.pv l1)), .pv (.agg [.int .i64 x2.group_, .int .i64 x2.id_, .str x2.name_, .int .i64 x2.offset_, .int .i64 x2.count_])] [] [.pv (.bool r3)] [] := by
  have pf_8 : O.pf 8 = true := by rw [hpf]; rfl
  have pf_13 : O.pf 13 = true := by rw [hpf]; rfl
  have pf_14 : O.pf 14 = true := by rw [hpf]; rfl
  have pf_16 : O.pf 16 = true := by rw [hpf]; rfl
  have pf_19 : O.pf 19 = true := by rw [hpf]; rfl
  have pf_20 : O.pf 20 = true := by rw [hpf]; rfl
  have pf_21 : O.pf 21 = true := by rw [hpf]; rfl
  have pf_22 : O.pf 22 = true := by rw [hpf]; rfl
  have pf_23 : O.pf 23 = true := by rw [hpf]; rfl
  have pf_24 : O.pf 24 = true := by rw [hpf]; rfl
  have pf_25 : O.pf 25 = true := by rw [hpf]; rfl
  have pf_26 : O.pf 26 = true := by rw [hpf]; rfl
  have pf_27 : O.pf 27 = true := by rw [hpf]; rfl
  have pf_28 : O.pf 28 = true := by rw [hpf]; rfl
  have pf_29 : O.pf 29 = true := by rw [hpf]; rfl
  have pf_30 : O.pf 30 = true := by rw [hpf]; rfl
  refine Good.start (fn := Tryd.f5) (N := 201) fn_5 rfl rfl (by simp) [] _ rfl rfl ?_
  rw [F5] at h
  refine AW.seq ?_
  refine AW.reg hS [(0, .pv (.slice (List.map GEnv.pv l1))), (3, .ref 0 0)] [.var [.pv (.int .i64 x2.group_), .pv (.int .i64 x2.id_), .pv (.str x2.name_), .pv (.int .i64 x2.offset_), .pv (.int .i64 x2.count_)]] ?_ ?_
  · simp -implicitDefEqProofs only [RUNS, qindex, Nat.reduceAdd, Nat.reduceLeDiff, Nat.reduceSub, reduceIte, Nat.reduceEqDiff, Nat.reduceLT, reduceCtorEq, Nat.reduceMul, Nat.reduceBEq, Int.reduceEq, if_true, if_false, eq_self, ne_eq, env_bT, T_36, P22_eq, Var.pv_eq, P72_eq, GEnv.pv_eq, Ask.pv_eq, Qid.pv_eq, Dir.pv_eq]
  refine AW.seq ?_
  refine AW.seq ?_
  replace h := Option.bind_eq_some_iff.1 h; obtain ⟨r4, q5, h⟩ := h
  have f6 := c_F14 l1 r4 q5
  try dsimp only at f6
  refine AW.reg hS [(0, .pv (.slice (List.map GEnv.pv l1))), (3, .ref 0 0), (33, .pv (.bool (!r4 || decide (1000 < (x2.name_.length : Int)))))] [.var [.pv (.int .i64 x2.group_), .pv (.int .i64 x2.id_), .pv (.str x2.name_), .pv (.int .i64 x2.offset_), .pv (.int .i64 x2.count_)]] ?_ ?_
  · clear h
    (simp -implicitDefEqProofs only [RUNS, qindex, Nat.reduceAdd, Nat.reduceLeDiff, Nat.reduceSub, reduceIte, Nat.reduceEqDiff, Nat.reduceLT, reduceCtorEq, Nat.reduceMul, Nat.reduceBEq, Int.reduceEq, if_true, if_false, eq_self, ne_eq, env_bT, T_3, T_9, T_32, T_36, T_74, P22_eq, Var.pv_eq, P72_eq, GEnv.pv_eq, Ask.pv_eq, Qid.pv_eq, Dir.pv_eq, pf_14, f6, eqT_3]); repeat' (split <;> rename_i hb <;> (try simp only [HBS, ge_iff_le, gt_iff_lt] at hb) <;> simp -implicitDefEqProofs only [RUNS, qindex, Nat.reduceAdd, Nat.reduceLeDiff, Nat.reduceSub, reduceIte, Nat.reduceEqDiff, Nat.reduceLT, reduceCtorEq, Nat.reduceMul, Nat.reduceBEq, Int.reduceEq, if_true, if_false, eq_self, ne_eq, env_bT, T_3, T_9, T_32, T_36, T_74, P22_eq, Var.pv_eq, P72_eq, GEnv.pv_eq, Ask.pv_eq, Qid.pv_eq, Dir.pv_eq, pf_14, f6, eqT_3, *, decide_true, decide_false, Decidable.not_not, not_false_eq_true, not_true_eq_false])
    all_goals (first | (simp only [BOOLS]; done) | (simp [*]; done) | ((try simp only [CLOS, beq_iff_eq, bne_iff_ne, ne_eq] at *) <;> omega) | (simp_all; done) | (simp_all <;> omega))
  refine AW.cond (b := (!r4 || decide (1000 < (x2.name_.length : Int)))) rfl (fun hb7 => ?_) (fun hb7 => ?_)
  · replace h := bif_t hb7 h
    refine AW.seq ?_
    replace h := Option.bind_eq_some_iff.1 h; obtain ⟨r8, q9, h⟩ := h
    have f10 := c_F8 r8 q9
    try dsimp only at f10
    refine AW.reg hS [(4, .pv (.bool r8))] [.var [.pv (.int .i64 x2.group_), .pv (.int .i64 x2.id_), .pv (.str x2.name_), .pv (.int .i64 x2.offset_), .pv (.int .i64 x2.count_)]] ?_ ?_
    · simp -implicitDefEqProofs only [RUNS, qindex, Nat.reduceAdd, Nat.reduceLeDiff, Nat.reduceSub, reduceIte, Nat.reduceEqDiff, Nat.reduceLT, reduceCtorEq, Nat.reduceMul, Nat.reduceBEq, Int.reduceEq, if_true, if_false, eq_self, ne_eq, env_bT, P22_eq, Var.pv_eq, P72_eq, GEnv.pv_eq, Ask.pv_eq, Qid.pv_eq, Dir.pv_eq, pf_8, f10]
    refine AW.ret ?_
    cases h
    show finish _ _ _ _ _ = _
    first | rfl | (simp [finish, resOf, renArgs, toPV, selObjs, sl])
  · replace h := bif_f hb7 h
    refine AW.skip ?_
    refine AW.seq ?_
    refine AW.seq ?_
    replace h := Option.bind_eq_some_iff.1 h; obtain ⟨r11, q12, h⟩ := h
    have f13 := c_F16 l1 r11 q12
    try dsimp only at f13
    refine AW.reg hS [(0, .pv (.slice (List.map GEnv.pv l1))), (3, .ref 0 0), (37, .pv (.bool (!r11)))] [.var [.pv (.int .i64 x2.group_), .pv (.int .i64 x2.id_), .pv (.str x2.name_), .pv (.int .i64 x2.offset_), .pv (.int .i64 x2.count_)]] ?_ ?_
    · simp -implicitDefEqProofs only [RUNS, qindex, Nat.reduceAdd, Nat.reduceLeDiff, Nat.reduceSub, reduceIte, Nat.reduceEqDiff, Nat.reduceLT, reduceCtorEq, Nat.reduceMul, Nat.reduceBEq, Int.reduceEq, if_true, if_false, eq_self, ne_eq, env_bT, T_32, T_74, P22_eq, Var.pv_eq, P72_eq, GEnv.pv_eq, Ask.pv_eq, Qid.pv_eq, Dir.pv_eq, pf_16, f13]
    refine AW.cond (b := !r11) rfl (fun hb14 => ?_) (fun hb14 => ?_)
    · replace h := bif_t hb14 h
      refine AW.seq ?_
      replace h := Option.bind_eq_some_iff.1 h; obtain ⟨r15, q16, h⟩ := h
      have f17 := c_F20 l1 r15 q16
      try dsimp only at f17
      replace h := Option.bind_eq_some_iff.1 h; obtain ⟨r18, q19, h⟩ := h
      have f20 := fun hg => c_F8 r18 (guardO_t q19 hg)
      try dsimp only at f20
      refine AW.reg hS [(4, .pv (.bool (!r15 && r18)))] [.var [.pv (.int .i64 x2.group_), .pv (.int .i64 x2.id_), .pv (.str x2.name_), .pv (.int .i64 x2.offset_), .pv (.int .i64 x2.count_)]] ?_ ?_
      · clear h
        (simp -implicitDefEqProofs only [RUNS, qindex, Nat.reduceAdd, Nat.reduceLeDiff, Nat.reduceSub, reduceIte, Nat.reduceEqDiff, Nat.reduceLT, reduceCtorEq, Nat.reduceMul, Nat.reduceBEq, Int.reduceEq, if_true, if_false, eq_self, ne_eq, env_bT, T_32, T_74, P22_eq, Var.pv_eq, P72_eq, GEnv.pv_eq, Ask.pv_eq, Qid.pv_eq, Dir.pv_eq, pf_20, f17, pf_8, f20]); repeat' (split <;> rename_i hb <;> (try simp only [HBS, ge_iff_le, gt_iff_lt] at hb) <;> simp -implicitDefEqProofs only [RUNS, qindex, Nat.reduceAdd, Nat.reduceLeDiff, Nat.reduceSub, reduceIte, Nat.reduceEqDiff, Nat.reduceLT, reduceCtorEq, Nat.reduceMul, Nat.reduceBEq, Int.reduceEq, if_true, if_false, eq_self, ne_eq, env_bT, T_32, T_74, P22_eq, Var.pv_eq, P72_eq, GEnv.pv_eq, Ask.pv_eq, Qid.pv_eq, Dir.pv_eq, pf_20, f17, pf_8, f20, *, decide_true, decide_false, Decidable.not_not, not_false_eq_true, not_true_eq_false])
        all_goals (first | (simp only [BOOLS]; done) | (simp [*]; done) | ((try simp only [CLOS, beq_iff_eq, bne_iff_ne, ne_eq] at *) <;> omega) | (simp_all; done) | (simp_all <;> omega))
      refine AW.ret ?_
      cases h
      show finish _ _ _ _ _ = _
      first | rfl | (simp [finish, resOf, renArgs, toPV, selObjs, sl])
    · replace h := bif_f hb14 h
      refine AW.skip ?_
      refine AW.seq ?_
      replace h := Option.bind_eq_some_iff.1 h; obtain ⟨⟨r21, r22⟩, q23, h⟩ := h
      dsimp only at h
      have f24 := c_F19 l1 x2.group_ x2.name_ r21 r22 q23
      try dsimp only at f24
      refine AW.reg hS [(0, .pv (.slice (List.map GEnv.pv l1))), (3, .ref 0 0), (5, .pv (.slice (List.map PV.str r21))), (6, .pv (.bool r22))] [.var [.pv (.int .i64 x2.group_), .pv (.int .i64 x2.id_), .pv (.str x2.name_), .pv (.int .i64 x2.offset_), .pv (.int .i64 x2.count_)]] ?_ ?_
      · simp -implicitDefEqProofs only [RUNS, qindex, Nat.reduceAdd, Nat.reduceLeDiff, Nat.reduceSub, reduceIte, Nat.reduceEqDiff, Nat.reduceLT, reduceCtorEq, Nat.reduceMul, Nat.reduceBEq, Int.reduceEq, if_true, if_false, eq_self, ne_eq, env_bT, T_3, T_9, T_32, T_36, T_74, P22_eq, Var.pv_eq, P72_eq, GEnv.pv_eq, Ask.pv_eq, Qid.pv_eq, Dir.pv_eq, pf_19, f24]
      refine AW.seq ?_
      replace h := Option.bind_eq_some_iff.1 h; obtain ⟨⟨r25, r26⟩, q27, h⟩ := h
      dsimp only at h
      have f28 := c_F21 l1 x2.group_ x2.name_ r25 r26 q27
      try dsimp only at f28
      refine AW.reg hS [(0, .pv (.slice (List.map GEnv.pv l1))), (3, .ref 0 0), (5, .pv (.slice (List.map PV.str r21))), (6, .pv (.bool r22)), (7, .pv (.slice (List.map PV.str r25))), (8, .pv (.bool r26))] [.var [.pv (.int .i64 x2.group_), .pv (.int .i64 x2.id_), .pv (.str x2.name_), .pv (.int .i64 x2.offset_), .pv (.int .i64 x2.count_)]] ?_ ?_
      · simp -implicitDefEqProofs only [RUNS, qindex, Nat.reduceAdd, Nat.reduceLeDiff, Nat.reduceSub, reduceIte, Nat.reduceEqDiff, Nat.reduceLT, reduceCtorEq, Nat.reduceMul, Nat.reduceBEq, Int.reduceEq, if_true, if_false, eq_self, ne_eq, env_bT, T_3, T_9, T_32, T_36, T_74, P22_eq, Var.pv_eq, P72_eq, GEnv.pv_eq, Ask.pv_eq, Qid.pv_eq, Dir.pv_eq, pf_21, f28]
      refine AW.seq ?_
      replace h := Option.bind_eq_some_iff.1 h; obtain ⟨⟨r29, r30⟩, q31, h⟩ := h
      dsimp only at h
      have f32 := c_F22 l1 x2.group_ x2.id_ x2.name_ r29 r30 q31
      try dsimp only at f32
      refine AW.reg hS [(0, .pv (.slice (List.map GEnv.pv l1))), (3, .ref 0 0), (5, .pv (.slice (List.map PV.str r21))), (6, .pv (.bool r22)), (7, .pv (.slice (List.map PV.str r25))), (8, .pv (.bool r26)), (9, .pv (.int .i64 r29)), (10, .pv (.int .i64 r30))] [.var [.pv (.int .i64 x2.group_), .pv (.int .i64 x2.id_), .pv (.str x2.name_), .pv (.int .i64 x2.offset_), .pv (.int .i64 x2.count_)]] ?_ ?_
      · simp -implicitDefEqProofs only [RUNS, qindex, Nat.reduceAdd, Nat.reduceLeDiff, Nat.reduceSub, reduceIte, Nat.reduceEqDiff, Nat.reduceLT, reduceCtorEq, Nat.reduceMul, Nat.reduceBEq, Int.reduceEq, if_true, if_false, eq_self, ne_eq, env_bT, T_3, T_9, T_32, T_36, T_74, P22_eq, Var.pv_eq, P72_eq, GEnv.pv_eq, Ask.pv_eq, Qid.pv_eq, Dir.pv_eq, pf_22, f32]
      refine AW.seq ?_
      replace h := Option.bind_eq_some_iff.1 h; obtain ⟨⟨r33, r34⟩, q35, h⟩ := h
      dsimp only at h
      have f36 := c_F23 l1 x2.group_ x2.id_ x2.name_ r33 r34 q35
      try dsimp only at f36
      refine AW.reg hS [(0, .pv (.slice (List.map GEnv.pv l1))), (3, .ref 0 0), (5, .pv (.slice (List.map PV.str r21))), (6, .pv (.bool r22)), (7, .pv (.slice (List.map PV.str r25))), (8, .pv (.bool r26)), (9, .pv (.int .i64 r29)), (10, .pv (.int .i64 r30)), (11, .pv (.int .i64 r33)), (12, .pv (.int .i64 r34))] [.var [.pv (.int .i64 x2.group_), .pv (.int .i64 x2.id_), .pv (.str x2.name_), .pv (.int .i64 x2.offset_), .pv (.int .i64 x2.count_)]] ?_ ?_
      · simp -implicitDefEqProofs only [RUNS, qindex, Nat.reduceAdd, Nat.reduceLeDiff, Nat.reduceSub, reduceIte, Nat.reduceEqDiff, Nat.reduceLT, reduceCtorEq, Nat.reduceMul, Nat.reduceBEq, Int.reduceEq, if_true, if_false, eq_self, ne_eq, env_bT, T_3, T_9, T_32, T_36, T_74, P22_eq, Var.pv_eq, P72_eq, GEnv.pv_eq, Ask.pv_eq, Qid.pv_eq, Dir.pv_eq, pf_23, f36]
      refine AW.seq ?_
      replace h := Option.bind_eq_some_iff.1 h; obtain ⟨⟨r37, r38⟩, q39, h⟩ := h
      dsimp only at h
      have f40 := c_F24 l1 x2.group_ x2.id_ x2.offset_ x2.count_ r37 r38 q39
      try dsimp only at f40
      refine AW.reg hS [(0, .pv (.slice (List.map GEnv.pv l1))), (3, .ref 0 0), (5, .pv (.slice (List.map PV.str r21))), (6, .pv (.bool r22)), (7, .pv (.slice (List.map PV.str r25))), (8, .pv (.bool r26)), (9, .pv (.int .i64 r29)), (10, .pv (.int .i64 r30)), (11, .pv (.int .i64 r33)), (12, .pv (.int .i64 r34)), (13, .pv (.str r37)), (14, .pv (.int .i64 r38))] [.var [.pv (.int .i64 x2.group_), .pv (.int .i64 x2.id_), .pv (.str x2.name_), .pv (.int .i64 x2.offset_), .pv (.int .i64 x2.count_)]] ?_ ?_
      · simp -implicitDefEqProofs only [RUNS, qindex, Nat.reduceAdd, Nat.reduceLeDiff, Nat.reduceSub, reduceIte, Nat.reduceEqDiff, Nat.reduceLT, reduceCtorEq, Nat.reduceMul, Nat.reduceBEq, Int.reduceEq, if_true, if_false, eq_self, ne_eq, env_bT, T_3, T_32, T_36, T_74, P22_eq, Var.pv_eq, P72_eq, GEnv.pv_eq, Ask.pv_eq, Qid.pv_eq, Dir.pv_eq, pf_24, f40]
      refine AW.seq ?_
      replace h := Option.bind_eq_some_iff.1 h; obtain ⟨⟨r41, r42⟩, q43, h⟩ := h
      dsimp only at h
      have f44 := c_F25 l1 x2.group_ x2.id_ x2.offset_ x2.count_ r41 r42 q43
      try dsimp only at f44
      refine AW.reg hS [(0, .pv (.slice (List.map GEnv.pv l1))), (3, .ref 0 0), (5, .pv (.slice (List.map PV.str r21))), (6, .pv (.bool r22)), (7, .pv (.slice (List.map PV.str r25))), (8, .pv (.bool r26)), (9, .pv (.int .i64 r29)), (10, .pv (.int .i64 r30)), (11, .pv (.int .i64 r33)), (12, .pv (.int .i64 r34)), (13, .pv (.str r37)), (14, .pv (.int .i64 r38)), (15, .pv (.str r41)), (16, .pv (.int .i64 r42))] [.var [.pv (.int .i64 x2.group_), .pv (.int .i64 x2.id_), .pv (.str x2.name_), .pv (.int .i64 x2.offset_), .pv (.int .i64 x2.count_)]] ?_ ?_
      · simp -implicitDefEqProofs only [RUNS, qindex, Nat.reduceAdd, Nat.reduceLeDiff, Nat.reduceSub, reduceIte, Nat.reduceEqDiff, Nat.reduceLT, reduceCtorEq, Nat.reduceMul, Nat.reduceBEq, Int.reduceEq, if_true, if_false, eq_self, ne_eq, env_bT, T_3, T_32, T_36, T_74, P22_eq, Var.pv_eq, P72_eq, GEnv.pv_eq, Ask.pv_eq, Qid.pv_eq, Dir.pv_eq, pf_25, f44]
      refine AW.seq ?_
      replace h := Option.bind_eq_some_iff.1 h; obtain ⟨⟨r45, r46⟩, q47, h⟩ := h
      dsimp only at h
      have f48 := c_F26 l1 x2.group_ x2.id_ r45 r46 q47
      try dsimp only at f48
      refine AW.reg hS [(0, .pv (.slice (List.map GEnv.pv l1))), (3, .ref 0 0), (5, .pv (.slice (List.map PV.str r21))), (6, .pv (.bool r22)), (7, .pv (.slice (List.map PV.str r25))), (8, .pv (.bool r26)), (9, .pv (.int .i64 r29)), (10, .pv (.int .i64 r30)), (11, .pv (.int .i64 r33)), (12, .pv (.int .i64 r34)), (13, .pv (.str r37)), (14, .pv (.int .i64 r38)), (15, .pv (.str r41)), (16, .pv (.int .i64 r42)), (17, .ref 1 0), (18, .pv (.int .i64 r46))] [.var [.pv (.int .i64 x2.group_), .pv (.int .i64 x2.id_), .pv (.str x2.name_), .pv (.int .i64 x2.offset_), .pv (.int .i64 x2.count_)], .var [.pv (.int .i64 r45.type_), .pv (.int .i64 r45.dev_), .pv (.int .i64 r45.qid_.type_), .pv (.int .i64 r45.qid_.vers_), .pv (.int .i64 r45.qid_.path_), .pv (.int .i64 r45.mode_), .pv (.int .i64 r45.atime_), .pv (.int .i64 r45.mtime_), .pv (.int .i64 r45.length_), .pv (.str r45.name_), .pv (.str r45.uid_), .pv (.str r45.gid_), .pv (.str r45.muid_)]] ?_ ?_
      · simp -implicitDefEqProofs only [RUNS, qindex, Nat.reduceAdd, Nat.reduceLeDiff, Nat.reduceSub, reduceIte, Nat.reduceEqDiff, Nat.reduceLT, reduceCtorEq, Nat.reduceMul, Nat.reduceBEq, Int.reduceEq, if_true, if_false, eq_self, ne_eq, env_bT, T_3, T_32, T_36, T_51, T_74, P22_eq, Var.pv_eq, P72_eq, GEnv.pv_eq, Ask.pv_eq, Qid.pv_eq, Dir.pv_eq, pf_26, f48]
      refine AW.seq ?_
      replace h := Option.bind_eq_some_iff.1 h; obtain ⟨⟨r49, r50⟩, q51, h⟩ := h
      dsimp only at h
      have f52 := c_F27 l1 x2.group_ x2.id_ r49 r50 q51
      try dsimp only at f52
      refine AW.reg hS [(0, .pv (.slice (List.map GEnv.pv l1))), (3, .ref 0 0), (5, .pv (.slice (List.map PV.str r21))), (6, .pv (.bool r22)), (7, .pv (.slice (List.map PV.str r25))), (8, .pv (.bool r26)), (9, .pv (.int .i64 r29)), (10, .pv (.int .i64 r30)), (11, .pv (.int .i64 r33)), (12, .pv (.int .i64 r34)), (13, .pv (.str r37)), (14, .pv (.int .i64 r38)), (15, .pv (.str r41)), (16, .pv (.int .i64 r42)), (17, .ref 1 0), (18, .pv (.int .i64 r46)), (19, .ref 2 0), (20, .pv (.int .i64 r50))] [.var [.pv (.int .i64 x2.group_), .pv (.int .i64 x2.id_), .pv (.str x2.name_), .pv (.int .i64 x2.offset_), .pv (.int .i64 x2.count_)], .var [.pv (.int .i64 r45.type_), .pv (.int .i64 r45.dev_), .pv (.int .i64 r45.qid_.type_), .pv (.int .i64 r45.qid_.vers_), .pv (.int .i64 r45.qid_.path_), .pv (.int .i64 r45.mode_), .pv (.int .i64 r45.atime_), .pv (.int .i64 r45.mtime_), .pv (.int .i64 r45.length_), .pv (.str r45.name_), .pv (.str r45.uid_), .pv (.str r45.gid_), .pv (.str r45.muid_)], .var [.pv (.int .i64 r49.type_), .pv (.int .i64 r49.dev_), .pv (.int .i64 r49.qid_.type_), .pv (.int .i64 r49.qid_.vers_), .pv (.int .i64 r49.qid_.path_), .pv (.int .i64 r49.mode_), .pv (.int .i64 r49.atime_), .pv (.int .i64 r49.mtime_), .pv (.int .i64 r49.length_), .pv (.str r49.name_), .pv (.str r49.uid_), .pv (.str r49.gid_), .pv (.str r49.muid_)]] ?_ ?_
      · simp -implicitDefEqProofs only [RUNS, qindex, Nat.reduceAdd, Nat.reduceLeDiff, Nat.reduceSub, reduceIte, Nat.reduceEqDiff, Nat.reduceLT, reduceCtorEq, Nat.reduceMul, Nat.reduceBEq, Int.reduceEq, if_true, if_false, eq_self, ne_eq, env_bT, T_3, T_32, T_36, T_51, T_74, P22_eq, Var.pv_eq, P72_eq, GEnv.pv_eq, Ask.pv_eq, Qid.pv_eq, Dir.pv_eq, pf_27, f52]
      refine AW.seq ?_
      replace h := Option.bind_eq_some_iff.1 h; obtain ⟨⟨r53, r54⟩, q55, h⟩ := h
      dsimp only at h
      have f56 := c_F28 l1 x2.group_ x2.id_ r53 r54 q55
      try dsimp only at f56
      refine AW.reg hS [(0, .pv (.slice (List.map GEnv.pv l1))), (3, .ref 0 0), (5, .pv (.slice (List.map PV.str r21))), (6, .pv (.bool r22)), (7, .pv (.slice (List.map PV.str r25))), (8, .pv (.bool r26)), (9, .pv (.int .i64 r29)), (10, .pv (.int .i64 r30)), (11, .pv (.int .i64 r33)), (12, .pv (.int .i64 r34)), (13, .pv (.str r37)), (14, .pv (.int .i64 r38)), (15, .pv (.str r41)), (16, .pv (.int .i64 r42)), (17, .ref 1 0), (18, .pv (.int .i64 r46)), (19, .ref 2 0), (20, .pv (.int .i64 r50)), (21, .pv (.slice (List.map Dir.pv r53))), (22, .pv (.int .i64 r54))] [.var [.pv (.int .i64 x2.group_), .pv (.int .i64 x2.id_), .pv (.str x2.name_), .pv (.int .i64 x2.offset_), .pv (.int .i64 x2.count_)], .var [.pv (.int .i64 r45.type_), .pv (.int .i64 r45.dev_), .pv (.int .i64 r45.qid_.type_), .pv (.int .i64 r45.qid_.vers_), .pv (.int .i64 r45.qid_.path_), .pv (.int .i64 r45.mode_), .pv (.int .i64 r45.atime_), .pv (.int .i64 r45.mtime_), .pv (.int .i64 r45.length_), .pv (.str r45.name_), .pv (.str r45.uid_), .pv (.str r45.gid_), .pv (.str r45.muid_)], .var [.pv (.int .i64 r49.type_), .pv (.int .i64 r49.dev_), .pv (.int .i64 r49.qid_.type_), .pv (.int .i64 r49.qid_.vers_), .pv (.int .i64 r49.qid_.path_), .pv (.int .i64 r49.mode_), .pv (.int .i64 r49.atime_), .pv (.int .i64 r49.mtime_), .pv (.int .i64 r49.length_), .pv (.str r49.name_), .pv (.str r49.uid_), .pv (.str r49.gid_), .pv (.str r49.muid_)]] ?_ ?_
      · simp -implicitDefEqProofs only [RUNS, qindex, Nat.reduceAdd, Nat.reduceLeDiff, Nat.reduceSub, reduceIte, Nat.reduceEqDiff, Nat.reduceLT, reduceCtorEq, Nat.reduceMul, Nat.reduceBEq, Int.reduceEq, if_true, if_false, eq_self, ne_eq, env_bT, T_3, T_32, T_36, T_74, P22_eq, Var.pv_eq, P72_eq, GEnv.pv_eq, Ask.pv_eq, Qid.pv_eq, Dir.pv_eq, pf_28, f56]
      refine AW.seq ?_
      replace h := Option.bind_eq_some_iff.1 h; obtain ⟨⟨r57, r58⟩, q59, h⟩ := h
      dsimp only at h
      have f60 := c_F29 l1 x2.group_ x2.id_ r57 r58 q59
      try dsimp only at f60
      refine AW.reg hS [(0, .pv (.slice (List.map GEnv.pv l1))), (5, .pv (.slice (List.map PV.str r21))), (6, .pv (.bool r22)), (7, .pv (.slice (List.map PV.str r25))), (8, .pv (.bool r26)), (9, .pv (.int .i64 r29)), (10, .pv (.int .i64 r30)), (11, .pv (.int .i64 r33)), (12, .pv (.int .i64 r34)), (13, .pv (.str r37)), (14, .pv (.int .i64 r38)), (15, .pv (.str r41)), (16, .pv (.int .i64 r42)), (17, .ref 1 0), (18, .pv (.int .i64 r46)), (19, .ref 2 0), (20, .pv (.int .i64 r50)), (21, .pv (.slice (List.map Dir.pv r53))), (22, .pv (.int .i64 r54)), (23, .pv (.slice (List.map Dir.pv r57))), (24, .pv (.int .i64 r58))] [.var [.pv (.int .i64 x2.group_), .pv (.int .i64 x2.id_), .pv (.str x2.name_), .pv (.int .i64 x2.offset_), .pv (.int .i64 x2.count_)], .var [.pv (.int .i64 r45.type_), .pv (.int .i64 r45.dev_), .pv (.int .i64 r45.qid_.type_), .pv (.int .i64 r45.qid_.vers_), .pv (.int .i64 r45.qid_.path_), .pv (.int .i64 r45.mode_), .pv (.int .i64 r45.atime_), .pv (.int .i64 r45.mtime_), .pv (.int .i64 r45.length_), .pv (.str r45.name_), .pv (.str r45.uid_), .pv (.str r45.gid_), .pv (.str r45.muid_)], .var [.pv (.int .i64 r49.type_), .pv (.int .i64 r49.dev_), .pv (.int .i64 r49.qid_.type_), .pv (.int .i64 r49.qid_.vers_), .pv (.int .i64 r49.qid_.path_), .pv (.int .i64 r49.mode_), .pv (.int .i64 r49.atime_), .pv (.int .i64 r49.mtime_), .pv (.int .i64 r49.length_), .pv (.str r49.name_), .pv (.str r49.uid_), .pv (.str r49.gid_), .pv (.str r49.muid_)]] ?_ ?_
      · simp -implicitDefEqProofs only [RUNS, qindex, Nat.reduceAdd, Nat.reduceLeDiff, Nat.reduceSub, reduceIte, Nat.reduceEqDiff, Nat.reduceLT, reduceCtorEq, Nat.reduceMul, Nat.reduceBEq, Int.reduceEq, if_true, if_false, eq_self, ne_eq, env_bT, T_3, T_32, T_36, T_74, P22_eq, Var.pv_eq, P72_eq, GEnv.pv_eq, Ask.pv_eq, Qid.pv_eq, Dir.pv_eq, pf_29, f60]
      refine AW.seq ?_
      replace h := Option.bind_eq_some_iff.1 h; obtain ⟨r61, q62, h⟩ := h
      have f63 := c_F20 l1 r61 q62
      try dsimp only at f63
      replace h := Option.bind_eq_some_iff.1 h; obtain ⟨r64, q65, h⟩ := h
      have f66 := fun hg => c_F13 r21 r25 r64 (guardO_t q65 hg)
      try dsimp only at f66
      replace h := Option.bind_eq_some_iff.1 h; obtain ⟨r67, q68, h⟩ := h
      have f69 := fun hg => c_F30 r53 r57 r67 (guardO_t q68 hg)
      try dsimp only at f69
      replace h := Option.bind_eq_some_iff.1 h; obtain ⟨r70, q71, h⟩ := h
      have f72 := fun hg => c_F8 r70 (guardO_t q71 hg)
      try dsimp only at f72
      refine AW.reg hS [(4, .pv (.bool (((((((((((r61 && r64) && (r22 == r26)) && decide (r29 = r33)) && decide (r30 = r34)) && decide (r37 = r41)) && decide (r38 = r42)) && (decide (r45.type_ = r49.type_) && (decide (r45.dev_ = r49.dev_) && (decide (r45.qid_.type_ = r49.qid_.type_) && (decide (r45.qid_.vers_ = r49.qid_.vers_) && (decide (r45.qid_.path_ = r49.qid_.path_) && (decide (r45.mode_ = r49.mode_) && (decide (r45.atime_ = r49.atime_) && (decide (r45.mtime_ = r49.mtime_) && (decide (r45.length_ = r49.length_) && (decide (r45.name_ = r49.name_) && (decide (r45.uid_ = r49.uid_) && (decide (r45.gid_ = r49.gid_) && (decide (r45.muid_ = r49.muid_))))))))))))))) && decide (r46 = r50)) && r67) && decide (r54 = r58)) && r70)))] [.var [.pv (.int .i64 x2.group_), .pv (.int .i64 x2.id_), .pv (.str x2.name_), .pv (.int .i64 x2.offset_), .pv (.int .i64 x2.count_)], .var [.pv (.int .i64 r45.type_), .pv (.int .i64 r45.dev_), .pv (.int .i64 r45.qid_.type_), .pv (.int .i64 r45.qid_.vers_), .pv (.int .i64 r45.qid_.path_), .pv (.int .i64 r45.mode_), .pv (.int .i64 r45.atime_), .pv (.int .i64 r45.mtime_), .pv (.int .i64 r45.length_), .pv (.str r45.name_), .pv (.str r45.uid_), .pv (.str r45.gid_), .pv (.str r45.muid_)], .var [.pv (.int .i64 r49.type_), .pv (.int .i64 r49.dev_), .pv (.int .i64 r49.qid_.type_), .pv (.int .i64 r49.qid_.vers_), .pv (.int .i64 r49.qid_.path_), .pv (.int .i64 r49.mode_), .pv (.int .i64 r49.atime_), .pv (.int .i64 r49.mtime_), .pv (.int .i64 r49.length_), .pv (.str r49.name_), .pv (.str r49.uid_), .pv (.str r49.gid_), .pv (.str r49.muid_)]] ?_ ?_
      · clear h
        (simp -implicitDefEqProofs only [RUNS, qindex, Nat.reduceAdd, Nat.reduceLeDiff, Nat.reduceSub, reduceIte, Nat.reduceEqDiff, Nat.reduceLT, reduceCtorEq, Nat.reduceMul, Nat.reduceBEq, Int.reduceEq, if_true, if_false, eq_self, ne_eq, env_bT, T_3, T_4, T_9, T_22, T_25, T_32, T_51, T_54, T_74, P22_eq, Var.pv_eq, P72_eq, GEnv.pv_eq, Ask.pv_eq, Qid.pv_eq, Dir.pv_eq, pf_20, f63, pf_13, f66, eqT_4, isBoolT_4, eqT_3, eqT_25, eqT_9, eqT_51, pf_30, f69, pf_8, f72]); repeat' (split <;> rename_i hb <;> (try simp only [HBS, ge_iff_le, gt_iff_lt] at hb) <;> simp -implicitDefEqProofs only [RUNS, qindex, Nat.reduceAdd, Nat.reduceLeDiff, Nat.reduceSub, reduceIte, Nat.reduceEqDiff, Nat.reduceLT, reduceCtorEq, Nat.reduceMul, Nat.reduceBEq, Int.reduceEq, if_true, if_false, eq_self, ne_eq, env_bT, T_3, T_4, T_9, T_22, T_25, T_32, T_51, T_54, T_74, P22_eq, Var.pv_eq, P72_eq, GEnv.pv_eq, Ask.pv_eq, Qid.pv_eq, Dir.pv_eq, pf_20, f63, pf_13, f66, eqT_4, isBoolT_4, eqT_3, eqT_25, eqT_9, eqT_51, pf_30, f69, pf_8, f72, *, decide_true, decide_false, Decidable.not_not, not_false_eq_true, not_true_eq_false])
        all_goals (first | (simp only [BOOLS]; done) | (simp [*]; done) | ((try simp only [CLOS, beq_iff_eq, bne_iff_ne, ne_eq] at *) <;> omega) | (simp_all; done) | (simp_all <;> omega))
      refine AW.ret ?_
      cases h
      show finish _ _ _ _ _ = _
      first | rfl | (simp [finish, resOf, renArgs, toPV, selObjs, sl])

end Go.Abs.U29
