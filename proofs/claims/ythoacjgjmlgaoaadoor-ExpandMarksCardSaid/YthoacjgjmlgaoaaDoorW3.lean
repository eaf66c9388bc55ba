/- The layer 50 laws: the functions walked. -/
import Derived.Test.YthoacjgjmlgaoaaDoorD1
set_option linter.unusedVariables false
set_option linter.unusedSimpArgs false
set_option maxRecDepth 8000
namespace Go.Abs.U50
open Go.RowKit Go.Proofs

set_option maxHeartbeats 4000000 in
theorem g_F28 {O : Orc} (hS : Sound env O) (hpf : O.pf = pfn) (g1 : GEnv) (name2 : Str) (r3 : Int) (h : F28 g1 name2 = some r3) : Good env 28 [.pv (.agg [.int .i64 g1.id_, .int .i64 g1.next_, .slice (List.map Var.pv g1.vars_)]), .pv (.str name2)] [] [.pv (.int .i64 r3)] [] := by
  refine Good.start (fn := Tryd.f28) (N := 22) fn_28 rfl rfl (by simp) [] _ rfl rfl ?_
  rw [F28] at h
  refine AW.seq ?_
  refine AW.reg hS [(1, .pv (.str name2)), (2, .ref 0 0)] [.var [.pv (.int .i64 g1.id_), .pv (.int .i64 g1.next_), .pv (.slice (List.map Var.pv g1.vars_))]] ?_ ?_
  · simp -implicitDefEqProofs only [RUNS, qindex, Nat.reduceAdd, Nat.reduceLeDiff, Nat.reduceSub, reduceIte, Nat.reduceEqDiff, Nat.reduceLT, reduceCtorEq, Nat.reduceMul, Nat.reduceBEq, Int.reduceEq, if_true, if_false, eq_self, ne_eq, env_bT, T_54, P31_eq, Redir.pv_eq, P154_eq, Cmd.pv_eq, P32_eq, Word.pv_eq, GValue.pv_eq, P22_eq, Var.pv_eq, P52_eq, GEnv.pv_eq]
  refine AW.seq ?_
  refine AW.seq ?_
  refine AW.reg hS [(1, .pv (.str name2)), (2, .ref 0 0), (5, .pv (.int .i64 0))] [.var [.pv (.int .i64 g1.id_), .pv (.int .i64 g1.next_), .pv (.slice (List.map Var.pv g1.vars_))]] ?_ ?_
  · simp -implicitDefEqProofs only [RUNS, qindex, Nat.reduceAdd, Nat.reduceLeDiff, Nat.reduceSub, reduceIte, Nat.reduceEqDiff, Nat.reduceLT, reduceCtorEq, Nat.reduceMul, Nat.reduceBEq, Int.reduceEq, if_true, if_false, eq_self, ne_eq, env_bT, P31_eq, Redir.pv_eq, P154_eq, Cmd.pv_eq, P32_eq, Word.pv_eq, GValue.pv_eq, P22_eq, Var.pv_eq, P52_eq, GEnv.pv_eq]
  refine AW.block ?_
  refine AW.weak (Weak.slots (L := [(1, .pv (.str name2)), (2, .ref 0 0), (5, .pv (.int .i64 0))]) ⟨rfl, rfl, rfl, trivial⟩) ?_
  refine AW.loopI (α := Nat × Int) (fun (_, i4) => ⟨sl [(1, .pv (.str name2)), (2, .ref 0 0), (5, .pv (.int .i64 i4))], 22, [.var [.pv (.int .i64 g1.id_), .pv (.int .i64 g1.next_), .pv (.slice (List.map Var.pv g1.vars_))]]⟩) (fun x => iter (F28_b1 g1 name2) x.1 x.2 = some r3) (fun x => x.1) (BIG, 0) h ?_
  clear h
  intro ⟨n13, i4⟩ h
  replace h := iter_some h; obtain ⟨m7, rfl, h⟩ := h
  rw [F28_b1] at h
  try dsimp only at h
  show AW _ _ _ _ ⟨sl [(1, .pv (.str name2)), (2, .ref 0 0), (5, .pv (.int .i64 i4))], 22, [.var [.pv (.int .i64 g1.id_), .pv (.int .i64 g1.next_), .pv (.slice (List.map Var.pv g1.vars_))]]⟩
  refine AW.seq ?_
  refine AW.seq ?_
  refine AW.reg hS [(1, .pv (.str name2)), (2, .ref 0 0), (5, .pv (.int .i64 i4)), (10, .pv (.bool (decide (i4 < (g1.vars_.length : Int)))))] [.var [.pv (.int .i64 g1.id_), .pv (.int .i64 g1.next_), .pv (.slice (List.map Var.pv g1.vars_))]] ?_ ?_
  · simp -implicitDefEqProofs only [RUNS, qindex, Nat.reduceAdd, Nat.reduceLeDiff, Nat.reduceSub, reduceIte, Nat.reduceEqDiff, Nat.reduceLT, reduceCtorEq, Nat.reduceMul, Nat.reduceBEq, Int.reduceEq, if_true, if_false, eq_self, ne_eq, env_bT, T_3, T_52, T_54, T_56, P31_eq, Redir.pv_eq, P154_eq, Cmd.pv_eq, P32_eq, Word.pv_eq, GValue.pv_eq, P22_eq, Var.pv_eq, P52_eq, GEnv.pv_eq, eqT_3]
  refine AW.cond (b := decide (i4 < (g1.vars_.length : Int))) rfl (fun hb8 => ?_) (fun hb8 => ?_)
  · replace h := bif_t hb8 h
    refine AW.skip ?_
    refine AW.seq ?_
    refine AW.block ?_
    refine AW.seq ?_
    replace h := Option.bind_eq_some_iff.1 h; obtain ⟨u9, q10, h⟩ := h
    have f11 := lidx_f q10
    refine AW.reg hS [(1, .pv (.str name2)), (2, .ref 0 0), (5, .pv (.int .i64 i4)), (20, .pv (.bool (decide (u9.name_ = name2))))] [.var [.pv (.int .i64 g1.id_), .pv (.int .i64 g1.next_), .pv (.slice (List.map Var.pv g1.vars_))]] ?_ ?_
    · simp -implicitDefEqProofs only [RUNS, qindex, Nat.reduceAdd, Nat.reduceLeDiff, Nat.reduceSub, reduceIte, Nat.reduceEqDiff, Nat.reduceLT, reduceCtorEq, Nat.reduceMul, Nat.reduceBEq, Int.reduceEq, if_true, if_false, eq_self, ne_eq, env_bT, T_9, T_52, T_54, T_56, P31_eq, Redir.pv_eq, P154_eq, Cmd.pv_eq, P32_eq, Word.pv_eq, GValue.pv_eq, P22_eq, Var.pv_eq, P52_eq, GEnv.pv_eq, f11.1, f11.2.1, eqT_9]
    refine AW.cond (b := decide (u9.name_ = name2)) rfl (fun hb12 => ?_) (fun hb12 => ?_)
    · replace h := bif_t hb12 h
      refine AW.seq ?_
      refine AW.reg hS [(4, .pv (.int .i64 i4))] [.var [.pv (.int .i64 g1.id_), .pv (.int .i64 g1.next_), .pv (.slice (List.map Var.pv g1.vars_))]] ?_ ?_
      · simp -implicitDefEqProofs only [RUNS, qindex, Nat.reduceAdd, Nat.reduceLeDiff, Nat.reduceSub, reduceIte, Nat.reduceEqDiff, Nat.reduceLT, reduceCtorEq, Nat.reduceMul, Nat.reduceBEq, Int.reduceEq, if_true, if_false, eq_self, ne_eq, env_bT, P31_eq, Redir.pv_eq, P154_eq, Cmd.pv_eq, P32_eq, Word.pv_eq, GValue.pv_eq, P22_eq, Var.pv_eq, P52_eq, GEnv.pv_eq]
      refine AW.ret ?_
      cases h
      show finish _ _ _ _ _ = _
      first | rfl | (simp [finish, resOf, renArgs, toPV, selObjs, sl])
    · replace h := bif_f hb12 h
      refine AW.skip ?_
      refine AW.reg hS [(1, .pv (.str name2)), (2, .ref 0 0), (5, .pv (.int .i64 (IntKind.wrap .i64 (i4 + 1))))] [.var [.pv (.int .i64 g1.id_), .pv (.int .i64 g1.next_), .pv (.slice (List.map Var.pv g1.vars_))]] ?_ ?_
      · simp -implicitDefEqProofs only [RUNS, qindex, Nat.reduceAdd, Nat.reduceLeDiff, Nat.reduceSub, reduceIte, Nat.reduceEqDiff, Nat.reduceLT, reduceCtorEq, Nat.reduceMul, Nat.reduceBEq, Int.reduceEq, if_true, if_false, eq_self, ne_eq, env_bT, T_3, P31_eq, Redir.pv_eq, P154_eq, Cmd.pv_eq, P32_eq, Word.pv_eq, GValue.pv_eq, P22_eq, Var.pv_eq, P52_eq, GEnv.pv_eq, eqT_3]
      exact ⟨(m7, IntKind.wrap .i64 (i4 + 1)), h, (Weak.norm (m := 1) (Nat.le_of_ble_eq_true rfl) ⟨rfl, rfl, rfl, trivial⟩ rfl rfl rfl), Nat.lt_succ_self _⟩
  · replace h := bif_f hb8 h
    refine AW.exit ?_
    refine AW.seq ?_
    refine AW.reg hS [(4, .pv (.int .i64 (-1)))] [.var [.pv (.int .i64 g1.id_), .pv (.int .i64 g1.next_), .pv (.slice (List.map Var.pv g1.vars_))]] ?_ ?_
    · simp -implicitDefEqProofs only [RUNS, qindex, Nat.reduceAdd, Nat.reduceLeDiff, Nat.reduceSub, reduceIte, Nat.reduceEqDiff, Nat.reduceLT, reduceCtorEq, Nat.reduceMul, Nat.reduceBEq, Int.reduceEq, if_true, if_false, eq_self, ne_eq, env_bT, P31_eq, Redir.pv_eq, P154_eq, Cmd.pv_eq, P32_eq, Word.pv_eq, GValue.pv_eq, P22_eq, Var.pv_eq, P52_eq, GEnv.pv_eq]
    refine AW.ret ?_
    cases h
    show finish _ _ _ _ _ = _
    first | rfl | (simp [finish, resOf, renArgs, toPV, selObjs, sl])

set_option maxHeartbeats 4000000 in
theorem g_F16 {O : Orc} (hS : Sound env O) (hpf : O.pf = pfn) (c_F26 : C_F26 O) (c_F27 : C_F27 O) (c_F28 : C_F28 O) (l1 : List GEnv) (r2 : Bool) (h : F16 l1 = some r2) : Good env 16 [.pv (.slice (List.map GEnv.pv l1))] [] [.pv (.bool r2)] [] := by
  have pf_26 : O.pf 26 = true := by rw [hpf]; rfl
  have pf_27 : O.pf 27 = true := by rw [hpf]; rfl
  have pf_28 : O.pf 28 = true := by rw [hpf]; rfl
  refine Good.start (fn := Tryd.f16) (N := 123) fn_16 rfl rfl (by simp) [] _ rfl rfl ?_
  rw [F16] at h
  refine AW.seq ?_
  refine AW.reg hS [(0, .pv (.slice (List.map GEnv.pv l1)))] [] ?_ ?_
  · simp -implicitDefEqProofs only [RUNS, qindex, Nat.reduceAdd, Nat.reduceLeDiff, Nat.reduceSub, reduceIte, Nat.reduceEqDiff, Nat.reduceLT, reduceCtorEq, Nat.reduceMul, Nat.reduceBEq, Int.reduceEq, if_true, if_false, eq_self, ne_eq, env_bT, P31_eq, Redir.pv_eq, P154_eq, Cmd.pv_eq, P32_eq, Word.pv_eq, GValue.pv_eq, P22_eq, Var.pv_eq, P52_eq, GEnv.pv_eq]
  refine AW.seq ?_
  refine AW.seq ?_
  refine AW.reg hS [(0, .pv (.slice (List.map GEnv.pv l1))), (11, .pv (.bool (decide (64 < (l1.length : Int)))))] [] ?_ ?_
  · simp -implicitDefEqProofs only [RUNS, qindex, Nat.reduceAdd, Nat.reduceLeDiff, Nat.reduceSub, reduceIte, Nat.reduceEqDiff, Nat.reduceLT, reduceCtorEq, Nat.reduceMul, Nat.reduceBEq, Int.reduceEq, if_true, if_false, eq_self, ne_eq, env_bT, T_3, T_30, T_54, P31_eq, Redir.pv_eq, P154_eq, Cmd.pv_eq, P32_eq, Word.pv_eq, GValue.pv_eq, P22_eq, Var.pv_eq, P52_eq, GEnv.pv_eq, eqT_3]
  refine AW.cond (b := decide (64 < (l1.length : Int))) rfl (fun hb3 => ?_) (fun hb3 => ?_)
  · replace h := bif_t hb3 h
    refine AW.seq ?_
    refine AW.reg hS [(2, .pv (.bool false))] [] ?_ ?_
    · simp -implicitDefEqProofs only [RUNS, qindex, Nat.reduceAdd, Nat.reduceLeDiff, Nat.reduceSub, reduceIte, Nat.reduceEqDiff, Nat.reduceLT, reduceCtorEq, Nat.reduceMul, Nat.reduceBEq, Int.reduceEq, if_true, if_false, eq_self, ne_eq, env_bT, P31_eq, Redir.pv_eq, P154_eq, Cmd.pv_eq, P32_eq, Word.pv_eq, GValue.pv_eq, P22_eq, Var.pv_eq, P52_eq, GEnv.pv_eq]
    refine AW.ret ?_
    cases h
    show finish _ _ _ _ _ = _
    first | rfl | (simp [finish, resOf, renArgs, toPV, selObjs, sl])
  · replace h := bif_f hb3 h
    refine AW.skip ?_
    refine AW.seq ?_
    refine AW.seq ?_
    refine AW.reg hS [(0, .pv (.slice (List.map GEnv.pv l1))), (3, .pv (.int .i64 0))] [] ?_ ?_
    · simp -implicitDefEqProofs only [RUNS, qindex, Nat.reduceAdd, Nat.reduceLeDiff, Nat.reduceSub, reduceIte, Nat.reduceEqDiff, Nat.reduceLT, reduceCtorEq, Nat.reduceMul, Nat.reduceBEq, Int.reduceEq, if_true, if_false, eq_self, ne_eq, env_bT, P31_eq, Redir.pv_eq, P154_eq, Cmd.pv_eq, P32_eq, Word.pv_eq, GValue.pv_eq, P22_eq, Var.pv_eq, P52_eq, GEnv.pv_eq]
    refine AW.block ?_
    refine AW.weak (Weak.slots (L := [(0, .pv (.slice (List.map GEnv.pv l1))), (3, .pv (.int .i64 0))]) ⟨rfl, rfl, trivial⟩) ?_
    refine AW.loopI (α := Nat × Int) (fun (_, i4) => ⟨sl [(0, .pv (.slice (List.map GEnv.pv l1))), (3, .pv (.int .i64 i4))], 123, []⟩) (fun x => iter (F16_b2 l1) x.1 x.2 = some r2) (fun x => x.1) (BIG, 0) h ?_
    clear h
    intro ⟨n39, i4⟩ h
    replace h := iter_some h; obtain ⟨m7, rfl, h⟩ := h
    rw [F16_b2] at h
    try dsimp only at h
    show AW _ _ _ _ ⟨sl [(0, .pv (.slice (List.map GEnv.pv l1))), (3, .pv (.int .i64 i4))], 123, []⟩
    refine AW.seq ?_
    refine AW.seq ?_
    refine AW.reg hS [(0, .pv (.slice (List.map GEnv.pv l1))), (3, .pv (.int .i64 i4)), (15, .pv (.bool (decide (i4 < (l1.length : Int)))))] [] ?_ ?_
    · simp -implicitDefEqProofs only [RUNS, qindex, Nat.reduceAdd, Nat.reduceLeDiff, Nat.reduceSub, reduceIte, Nat.reduceEqDiff, Nat.reduceLT, reduceCtorEq, Nat.reduceMul, Nat.reduceBEq, Int.reduceEq, if_true, if_false, eq_self, ne_eq, env_bT, T_3, T_30, T_54, P31_eq, Redir.pv_eq, P154_eq, Cmd.pv_eq, P32_eq, Word.pv_eq, GValue.pv_eq, P22_eq, Var.pv_eq, P52_eq, GEnv.pv_eq, eqT_3]
    refine AW.cond (b := decide (i4 < (l1.length : Int))) rfl (fun hb8 => ?_) (fun hb8 => ?_)
    · replace h := bif_t hb8 h
      refine AW.skip ?_
      refine AW.seq ?_
      refine AW.block ?_
      refine AW.seq ?_
      replace h := Option.bind_eq_some_iff.1 h; obtain ⟨u9, q10, h⟩ := h
      have f11 := lidx_f q10
      refine AW.reg hS [(0, .pv (.slice (List.map GEnv.pv l1))), (3, .pv (.int .i64 i4)), (4, .ref 0 0)] [.var [.pv (.int .i64 u9.id_), .pv (.int .i64 u9.next_), .pv (.slice (List.map Var.pv u9.vars_))]] ?_ ?_
      · simp -implicitDefEqProofs only [RUNS, qindex, Nat.reduceAdd, Nat.reduceLeDiff, Nat.reduceSub, reduceIte, Nat.reduceEqDiff, Nat.reduceLT, reduceCtorEq, Nat.reduceMul, Nat.reduceBEq, Int.reduceEq, if_true, if_false, eq_self, ne_eq, env_bT, T_30, T_54, P31_eq, Redir.pv_eq, P154_eq, Cmd.pv_eq, P32_eq, Word.pv_eq, GValue.pv_eq, P22_eq, Var.pv_eq, P52_eq, GEnv.pv_eq, f11.1, f11.2.1]
      refine AW.seq ?_
      refine AW.seq ?_
      replace h := Option.bind_eq_some_iff.1 h; obtain ⟨u12, q13, h⟩ := h
      have f14 := lidx_g (guardO_t q13)
      refine AW.dreg mixed hS (hpf ▸ (by kernel_rfl : orderOK pfn _ = true)) [(0, .pv (.slice (List.map GEnv.pv l1))), (3, .pv (.int .i64 i4)), (4, .ref 0 0), (60, .pv (.bool (((((decide (u9.id_ < 1) || decide (1099511627776 < u9.id_)) || (decide (0 < i4) && decide (u9.id_ ≤ u12.id_))) || decide (u9.next_ < 2)) || decide (1048576 < u9.next_)) || decide (64 < (u9.vars_.length : Int)))))] [.var [.pv (.int .i64 u9.id_), .pv (.int .i64 u9.next_), .pv (.slice (List.map Var.pv u9.vars_))]] ?_ ?_
      · clear h
        (simp -implicitDefEqProofs only [RUNS, qindex, Nat.reduceAdd, Nat.reduceLeDiff, Nat.reduceSub, reduceIte, Nat.reduceEqDiff, Nat.reduceLT, reduceCtorEq, Nat.reduceMul, Nat.reduceBEq, Int.reduceEq, if_true, if_false, eq_self, ne_eq, env_bT, T_3, T_30, T_52, T_54, T_56, P31_eq, Redir.pv_eq, P154_eq, Cmd.pv_eq, P32_eq, Word.pv_eq, GValue.pv_eq, P22_eq, Var.pv_eq, P52_eq, GEnv.pv_eq, eqT_3, f14.1, f14.2.1]); repeat' (split <;> rename_i hb <;> (try simp only [HBS, ge_iff_le, gt_iff_lt] at hb) <;> simp -implicitDefEqProofs only [RUNS, qindex, Nat.reduceAdd, Nat.reduceLeDiff, Nat.reduceSub, reduceIte, Nat.reduceEqDiff, Nat.reduceLT, reduceCtorEq, Nat.reduceMul, Nat.reduceBEq, Int.reduceEq, if_true, if_false, eq_self, ne_eq, env_bT, T_3, T_30, T_52, T_54, T_56, P31_eq, Redir.pv_eq, P154_eq, Cmd.pv_eq, P32_eq, Word.pv_eq, GValue.pv_eq, P22_eq, Var.pv_eq, P52_eq, GEnv.pv_eq, eqT_3, f14.1, f14.2.1, *, decide_true, decide_false, Decidable.not_not, not_false_eq_true, not_true_eq_false])
        all_goals (first | (simp only [BOOLS]; done) | (simp [*]; done) | ((try simp only [CLOS, beq_iff_eq, bne_iff_ne, ne_eq] at *) <;> omega) | (simp_all; done) | (simp_all <;> omega))
      refine AW.cond (b := (((((decide (u9.id_ < 1) || decide (1099511627776 < u9.id_)) || (decide (0 < i4) && decide (u9.id_ ≤ u12.id_))) || decide (u9.next_ < 2)) || decide (1048576 < u9.next_)) || decide (64 < (u9.vars_.length : Int)))) rfl (fun hb15 => ?_) (fun hb15 => ?_)
      · replace h := bif_t hb15 h
        refine AW.seq ?_
        refine AW.reg hS [(2, .pv (.bool false))] [.var [.pv (.int .i64 u9.id_), .pv (.int .i64 u9.next_), .pv (.slice (List.map Var.pv u9.vars_))]] ?_ ?_
        · simp -implicitDefEqProofs only [RUNS, qindex, Nat.reduceAdd, Nat.reduceLeDiff, Nat.reduceSub, reduceIte, Nat.reduceEqDiff, Nat.reduceLT, reduceCtorEq, Nat.reduceMul, Nat.reduceBEq, Int.reduceEq, if_true, if_false, eq_self, ne_eq, env_bT, P31_eq, Redir.pv_eq, P154_eq, Cmd.pv_eq, P32_eq, Word.pv_eq, GValue.pv_eq, P22_eq, Var.pv_eq, P52_eq, GEnv.pv_eq]
        refine AW.ret ?_
        cases h
        show finish _ _ _ _ _ = _
        first | rfl | (simp [finish, resOf, renArgs, toPV, selObjs, sl])
      · replace h := bif_f hb15 h
        refine AW.skip ?_
        refine AW.seq ?_
        refine AW.reg hS [(0, .pv (.slice (List.map GEnv.pv l1))), (3, .pv (.int .i64 i4)), (4, .ref 0 0), (5, .pv (.int .i64 0))] [.var [.pv (.int .i64 u9.id_), .pv (.int .i64 u9.next_), .pv (.slice (List.map Var.pv u9.vars_))]] ?_ ?_
        · simp -implicitDefEqProofs only [RUNS, qindex, Nat.reduceAdd, Nat.reduceLeDiff, Nat.reduceSub, reduceIte, Nat.reduceEqDiff, Nat.reduceLT, reduceCtorEq, Nat.reduceMul, Nat.reduceBEq, Int.reduceEq, if_true, if_false, eq_self, ne_eq, env_bT, P31_eq, Redir.pv_eq, P154_eq, Cmd.pv_eq, P32_eq, Word.pv_eq, GValue.pv_eq, P22_eq, Var.pv_eq, P52_eq, GEnv.pv_eq]
        refine AW.block ?_
        refine AW.weak (Weak.slots (L := [(0, .pv (.slice (List.map GEnv.pv l1))), (3, .pv (.int .i64 i4)), (4, .ref 0 0), (5, .pv (.int .i64 0))]) ⟨rfl, rfl, rfl, rfl, trivial⟩) ?_
        refine AW.loopI (α := Nat × Int) (fun (_, k16) => ⟨sl [(0, .pv (.slice (List.map GEnv.pv l1))), (3, .pv (.int .i64 i4)), (4, .ref 0 0), (5, .pv (.int .i64 k16))], 123, [.var [.pv (.int .i64 u9.id_), .pv (.int .i64 u9.next_), .pv (.slice (List.map Var.pv u9.vars_))]]⟩) (fun x => iter (F16_b3 u9 (iter (F16_b2 l1) m7) i4) x.1 x.2 = some r2) (fun x => x.1) (BIG, 0) h ?_
        clear h
        intro ⟨n38, k16⟩ h
        replace h := iter_some h; obtain ⟨m19, rfl, h⟩ := h
        rw [F16_b3] at h
        try dsimp only at h
        show AW _ _ _ _ ⟨sl [(0, .pv (.slice (List.map GEnv.pv l1))), (3, .pv (.int .i64 i4)), (4, .ref 0 0), (5, .pv (.int .i64 k16))], 123, [.var [.pv (.int .i64 u9.id_), .pv (.int .i64 u9.next_), .pv (.slice (List.map Var.pv u9.vars_))]]⟩
        refine AW.seq ?_
        refine AW.seq ?_
        refine AW.reg hS [(0, .pv (.slice (List.map GEnv.pv l1))), (3, .pv (.int .i64 i4)), (4, .ref 0 0), (5, .pv (.int .i64 k16)), (65, .pv (.bool (decide (k16 < (u9.vars_.length : Int)))))] [.var [.pv (.int .i64 u9.id_), .pv (.int .i64 u9.next_), .pv (.slice (List.map Var.pv u9.vars_))]] ?_ ?_
        · simp -implicitDefEqProofs only [RUNS, qindex, Nat.reduceAdd, Nat.reduceLeDiff, Nat.reduceSub, reduceIte, Nat.reduceEqDiff, Nat.reduceLT, reduceCtorEq, Nat.reduceMul, Nat.reduceBEq, Int.reduceEq, if_true, if_false, eq_self, ne_eq, env_bT, T_3, T_52, T_54, T_56, P31_eq, Redir.pv_eq, P154_eq, Cmd.pv_eq, P32_eq, Word.pv_eq, GValue.pv_eq, P22_eq, Var.pv_eq, P52_eq, GEnv.pv_eq, eqT_3]
        refine AW.cond (b := decide (k16 < (u9.vars_.length : Int))) rfl (fun hb20 => ?_) (fun hb20 => ?_)
        · replace h := bif_t hb20 h
          refine AW.skip ?_
          refine AW.seq ?_
          refine AW.block ?_
          refine AW.seq ?_
          replace h := Option.bind_eq_some_iff.1 h; obtain ⟨u21, q22, h⟩ := h
          have f23 := lidx_f q22
          refine AW.reg hS [(0, .pv (.slice (List.map GEnv.pv l1))), (3, .pv (.int .i64 i4)), (4, .ref 0 0), (5, .pv (.int .i64 k16)), (6, .ref 1 0)] [.var [.pv (.int .i64 u9.id_), .pv (.int .i64 u9.next_), .pv (.slice (List.map Var.pv u9.vars_))], .var [.pv (.int .i64 u21.id_), .pv (.str u21.name_), .pv (.slice (List.map PV.str u21.values_))]] ?_ ?_
          · simp -implicitDefEqProofs only [RUNS, qindex, Nat.reduceAdd, Nat.reduceLeDiff, Nat.reduceSub, reduceIte, Nat.reduceEqDiff, Nat.reduceLT, reduceCtorEq, Nat.reduceMul, Nat.reduceBEq, Int.reduceEq, if_true, if_false, eq_self, ne_eq, env_bT, T_52, T_54, T_56, P31_eq, Redir.pv_eq, P154_eq, Cmd.pv_eq, P32_eq, Word.pv_eq, GValue.pv_eq, P22_eq, Var.pv_eq, P52_eq, GEnv.pv_eq, f23.1, f23.2.1]
          refine AW.seq ?_
          replace h := Option.bind_eq_some_iff.1 h; obtain ⟨⟨r24, r25⟩, q26, h⟩ := h
          dsimp only at h
          have f27 := c_F26 u21.values_ r24 r25 q26
          try dsimp only at f27
          refine AW.reg hS [(0, .pv (.slice (List.map GEnv.pv l1))), (3, .pv (.int .i64 i4)), (4, .ref 0 0), (5, .pv (.int .i64 k16)), (6, .ref 1 0), (8, .pv (.int .i64 r25))] [.var [.pv (.int .i64 u9.id_), .pv (.int .i64 u9.next_), .pv (.slice (List.map Var.pv u9.vars_))], .var [.pv (.int .i64 u21.id_), .pv (.str u21.name_), .pv (.slice (List.map PV.str u21.values_))]] ?_ ?_
          · simp -implicitDefEqProofs only [RUNS, qindex, Nat.reduceAdd, Nat.reduceLeDiff, Nat.reduceSub, reduceIte, Nat.reduceEqDiff, Nat.reduceLT, reduceCtorEq, Nat.reduceMul, Nat.reduceBEq, Int.reduceEq, if_true, if_false, eq_self, ne_eq, env_bT, T_9, T_22, T_56, P31_eq, Redir.pv_eq, P154_eq, Cmd.pv_eq, P32_eq, Word.pv_eq, GValue.pv_eq, P22_eq, Var.pv_eq, P52_eq, GEnv.pv_eq, pf_26, f27]
          refine AW.seq ?_
          replace h := Option.bind_eq_some_iff.1 h; obtain ⟨r28, q29, h⟩ := h
          have f30 := fun hg => c_F27 u21.name_ r28 (guardO_t q29 hg)
          try dsimp only at f30
          replace h := Option.bind_eq_some_iff.1 h; obtain ⟨r31, q32, h⟩ := h
          have f33 := fun hg => c_F28 u9 u21.name_ r31 (guardO_t q32 hg)
          try dsimp only at f33
          replace h := Option.bind_eq_some_iff.1 h; obtain ⟨u34, q35, h⟩ := h
          have f36 := lidx_g (guardO_t q35)
          refine AW.dreg mixed hS (hpf ▸ (by kernel_rfl : orderOK pfn _ = true)) [(0, .pv (.slice (List.map GEnv.pv l1))), (3, .pv (.int .i64 i4)), (4, .ref 0 0), (5, .pv (.int .i64 k16)), (122, .pv (.bool (((((!decide (r25 = 0) || !r28) || !decide (r31 = k16)) || decide (u21.id_ < 2)) || decide (u9.next_ ≤ u21.id_)) || (decide (0 < k16) && decide (u21.id_ ≤ u34.id_)))))] [.var [.pv (.int .i64 u9.id_), .pv (.int .i64 u9.next_), .pv (.slice (List.map Var.pv u9.vars_))], .var [.pv (.int .i64 u21.id_), .pv (.str u21.name_), .pv (.slice (List.map PV.str u21.values_))]] ?_ ?_
          · clear h
            (simp -implicitDefEqProofs only [RUNS, qindex, Nat.reduceAdd, Nat.reduceLeDiff, Nat.reduceSub, reduceIte, Nat.reduceEqDiff, Nat.reduceLT, reduceCtorEq, Nat.reduceMul, Nat.reduceBEq, Int.reduceEq, if_true, if_false, eq_self, ne_eq, env_bT, T_3, T_9, T_25, T_52, T_54, T_56, P31_eq, Redir.pv_eq, P154_eq, Cmd.pv_eq, P32_eq, Word.pv_eq, GValue.pv_eq, P22_eq, Var.pv_eq, P52_eq, GEnv.pv_eq, eqT_25, pf_27, f30, pf_28, f33, eqT_3, f36.1, f36.2.1]); repeat' (split <;> rename_i hb <;> (try simp only [HBS, ge_iff_le, gt_iff_lt] at hb) <;> simp -implicitDefEqProofs only [RUNS, qindex, Nat.reduceAdd, Nat.reduceLeDiff, Nat.reduceSub, reduceIte, Nat.reduceEqDiff, Nat.reduceLT, reduceCtorEq, Nat.reduceMul, Nat.reduceBEq, Int.reduceEq, if_true, if_false, eq_self, ne_eq, env_bT, T_3, T_9, T_25, T_52, T_54, T_56, P31_eq, Redir.pv_eq, P154_eq, Cmd.pv_eq, P32_eq, Word.pv_eq, GValue.pv_eq, P22_eq, Var.pv_eq, P52_eq, GEnv.pv_eq, eqT_25, pf_27, f30, pf_28, f33, eqT_3, f36.1, f36.2.1, *, decide_true, decide_false, Decidable.not_not, not_false_eq_true, not_true_eq_false])
            all_goals (first | (simp only [BOOLS]; done) | (simp [*]; done) | ((try simp only [CLOS, beq_iff_eq, bne_iff_ne, ne_eq] at *) <;> omega) | (simp_all; done) | (simp_all <;> omega))
          refine AW.cond (b := (((((!decide (r25 = 0) || !r28) || !decide (r31 = k16)) || decide (u21.id_ < 2)) || decide (u9.next_ ≤ u21.id_)) || (decide (0 < k16) && decide (u21.id_ ≤ u34.id_)))) rfl (fun hb37 => ?_) (fun hb37 => ?_)
          · replace h := bif_t hb37 h
            refine AW.seq ?_
            refine AW.reg hS [(2, .pv (.bool false))] [.var [.pv (.int .i64 u9.id_), .pv (.int .i64 u9.next_), .pv (.slice (List.map Var.pv u9.vars_))], .var [.pv (.int .i64 u21.id_), .pv (.str u21.name_), .pv (.slice (List.map PV.str u21.values_))]] ?_ ?_
            · simp -implicitDefEqProofs only [RUNS, qindex, Nat.reduceAdd, Nat.reduceLeDiff, Nat.reduceSub, reduceIte, Nat.reduceEqDiff, Nat.reduceLT, reduceCtorEq, Nat.reduceMul, Nat.reduceBEq, Int.reduceEq, if_true, if_false, eq_self, ne_eq, env_bT, P31_eq, Redir.pv_eq, P154_eq, Cmd.pv_eq, P32_eq, Word.pv_eq, GValue.pv_eq, P22_eq, Var.pv_eq, P52_eq, GEnv.pv_eq]
            refine AW.ret ?_
            cases h
            show finish _ _ _ _ _ = _
            first | rfl | (simp [finish, resOf, renArgs, toPV, selObjs, sl])
          · replace h := bif_f hb37 h
            refine AW.skip ?_
            refine AW.reg hS [(0, .pv (.slice (List.map GEnv.pv l1))), (3, .pv (.int .i64 i4)), (4, .ref 0 0), (5, .pv (.int .i64 (IntKind.wrap .i64 (k16 + 1))))] [.var [.pv (.int .i64 u9.id_), .pv (.int .i64 u9.next_), .pv (.slice (List.map Var.pv u9.vars_))], .var [.pv (.int .i64 u21.id_), .pv (.str u21.name_), .pv (.slice (List.map PV.str u21.values_))]] ?_ ?_
            · simp -implicitDefEqProofs only [RUNS, qindex, Nat.reduceAdd, Nat.reduceLeDiff, Nat.reduceSub, reduceIte, Nat.reduceEqDiff, Nat.reduceLT, reduceCtorEq, Nat.reduceMul, Nat.reduceBEq, Int.reduceEq, if_true, if_false, eq_self, ne_eq, env_bT, T_3, P31_eq, Redir.pv_eq, P154_eq, Cmd.pv_eq, P32_eq, Word.pv_eq, GValue.pv_eq, P22_eq, Var.pv_eq, P52_eq, GEnv.pv_eq, eqT_3]
            exact ⟨(m19, IntKind.wrap .i64 (k16 + 1)), h, (Weak.norm (m := 1) (Nat.le_of_ble_eq_true rfl) ⟨rfl, rfl, rfl, rfl, trivial⟩ rfl rfl rfl), Nat.lt_succ_self _⟩
        · replace h := bif_f hb20 h
          refine AW.exit ?_
          refine AW.reg hS [(0, .pv (.slice (List.map GEnv.pv l1))), (3, .pv (.int .i64 (IntKind.wrap .i64 (i4 + 1))))] [.var [.pv (.int .i64 u9.id_), .pv (.int .i64 u9.next_), .pv (.slice (List.map Var.pv u9.vars_))]] ?_ ?_
          · simp -implicitDefEqProofs only [RUNS, qindex, Nat.reduceAdd, Nat.reduceLeDiff, Nat.reduceSub, reduceIte, Nat.reduceEqDiff, Nat.reduceLT, reduceCtorEq, Nat.reduceMul, Nat.reduceBEq, Int.reduceEq, if_true, if_false, eq_self, ne_eq, env_bT, T_3, P31_eq, Redir.pv_eq, P154_eq, Cmd.pv_eq, P32_eq, Word.pv_eq, GValue.pv_eq, P22_eq, Var.pv_eq, P52_eq, GEnv.pv_eq, eqT_3]
          exact ⟨(m7, IntKind.wrap .i64 (i4 + 1)), h, (Weak.norm (m := 0) (Nat.le_of_ble_eq_true rfl) ⟨rfl, rfl, trivial⟩ rfl rfl rfl), Nat.lt_succ_self _⟩
    · replace h := bif_f hb8 h
      refine AW.exit ?_
      refine AW.seq ?_
      refine AW.reg hS [(2, .pv (.bool true))] [] ?_ ?_
      · simp -implicitDefEqProofs only [RUNS, qindex, Nat.reduceAdd, Nat.reduceLeDiff, Nat.reduceSub, reduceIte, Nat.reduceEqDiff, Nat.reduceLT, reduceCtorEq, Nat.reduceMul, Nat.reduceBEq, Int.reduceEq, if_true, if_false, eq_self, ne_eq, env_bT, P31_eq, Redir.pv_eq, P154_eq, Cmd.pv_eq, P32_eq, Word.pv_eq, GValue.pv_eq, P22_eq, Var.pv_eq, P52_eq, GEnv.pv_eq]
      refine AW.ret ?_
      cases h
      show finish _ _ _ _ _ = _
      first | rfl | (simp [finish, resOf, renArgs, toPV, selObjs, sl])

set_option maxHeartbeats 4000000 in
theorem g_F4 {O : Orc} (hS : Sound env O) (hpf : O.pf = pfn) (c_F14 : C_F14 O) (c_K15 : C_K15 O) (c_F16 : C_F16 O) (c_F8 : C_F8 O) (c_F17 : C_F17 O) (l1 : List GEnv) (n2 : Int) (w3 : Word) (r4 : Bool) (h : F4 l1 n2 w3 = some r4) : Good env 4 [.pv (.slice (List.map GEnv.pv l1)), .pv (.int .i64 n2), .pv (.agg [.int .i64 w3.kind_, .str w3.text_, .str w3.quoted_, .slice (List.map Word.pv w3.words_), .slice (List.map Cmd.pv w3.cmd_)])] [] [.pv (.bool r4)] [] := by
  have pf_8 : O.pf 8 = true := by rw [hpf]; rfl
  have pf_14 : O.pf 14 = true := by rw [hpf]; rfl
  have pf_15 : O.pf 15 = true := by rw [hpf]; rfl
  have pf_16 : O.pf 16 = true := by rw [hpf]; rfl
  have pf_17 : O.pf 17 = true := by rw [hpf]; rfl
  refine Good.start (fn := Tryd.f4) (N := 101) fn_4 rfl rfl (by simp) [] _ rfl rfl ?_
  rw [F4] at h
  refine AW.seq ?_
  refine AW.reg hS [(0, .pv (.slice (List.map GEnv.pv l1))), (1, .pv (.int .i64 n2)), (5, .ref 0 0)] [.var [.pv (.int .i64 w3.kind_), .pv (.str w3.text_), .pv (.str w3.quoted_), .pv (.slice (List.map Word.pv w3.words_)), .pv (.slice (List.map Cmd.pv w3.cmd_))]] ?_ ?_
  · simp -implicitDefEqProofs only [RUNS, qindex, Nat.reduceAdd, Nat.reduceLeDiff, Nat.reduceSub, reduceIte, Nat.reduceEqDiff, Nat.reduceLT, reduceCtorEq, Nat.reduceMul, Nat.reduceBEq, Int.reduceEq, if_true, if_false, eq_self, ne_eq, env_bT, T_34, P31_eq, Redir.pv_eq, P154_eq, Cmd.pv_eq, P32_eq, Word.pv_eq, GValue.pv_eq, P22_eq, Var.pv_eq, P52_eq, GEnv.pv_eq]
  refine AW.seq ?_
  refine AW.seq ?_
  replace h := Option.bind_eq_some_iff.1 h; obtain ⟨r5, q6, h⟩ := h
  have f7 := c_F14 l1 r5 q6
  try dsimp only at f7
  replace h := Option.bind_eq_some_iff.1 h; obtain ⟨r8, q9, h⟩ := h
  have f10 := fun hg => c_K15 w3 60 12 r8 (guardO_t q9 hg)
  try dsimp only at f10
  replace h := Option.bind_eq_some_iff.1 h; obtain ⟨r11, q12, h⟩ := h
  have f13 := fun hg => c_F16 l1 r11 (guardO_t q12 hg)
  try dsimp only at f13
  refine AW.reg hS [(0, .pv (.slice (List.map GEnv.pv l1))), (1, .pv (.int .i64 n2)), (5, .ref 0 0), (24, .pv (.bool ((!r5 || decide (r8 < 0)) || !r11)))] [.var [.pv (.int .i64 w3.kind_), .pv (.str w3.text_), .pv (.str w3.quoted_), .pv (.slice (List.map Word.pv w3.words_)), .pv (.slice (List.map Cmd.pv w3.cmd_))]] ?_ ?_
  · clear h
    (simp -implicitDefEqProofs only [RUNS, qindex, Nat.reduceAdd, Nat.reduceLeDiff, Nat.reduceSub, reduceIte, Nat.reduceEqDiff, Nat.reduceLT, reduceCtorEq, Nat.reduceMul, Nat.reduceBEq, Int.reduceEq, if_true, if_false, eq_self, ne_eq, env_bT, T_3, T_30, T_34, T_54, P31_eq, Redir.pv_eq, P154_eq, Cmd.pv_eq, P32_eq, Word.pv_eq, GValue.pv_eq, P22_eq, Var.pv_eq, P52_eq, GEnv.pv_eq, pf_14, f7, pf_15, f10, eqT_3, pf_16, f13]); repeat' (split <;> rename_i hb <;> (try simp only [HBS, ge_iff_le, gt_iff_lt] at hb) <;> simp -implicitDefEqProofs only [RUNS, qindex, Nat.reduceAdd, Nat.reduceLeDiff, Nat.reduceSub, reduceIte, Nat.reduceEqDiff, Nat.reduceLT, reduceCtorEq, Nat.reduceMul, Nat.reduceBEq, Int.reduceEq, if_true, if_false, eq_self, ne_eq, env_bT, T_3, T_30, T_34, T_54, P31_eq, Redir.pv_eq, P154_eq, Cmd.pv_eq, P32_eq, Word.pv_eq, GValue.pv_eq, P22_eq, Var.pv_eq, P52_eq, GEnv.pv_eq, pf_14, f7, pf_15, f10, eqT_3, pf_16, f13, *, decide_true, decide_false, Decidable.not_not, not_false_eq_true, not_true_eq_false])
    all_goals (first | (simp only [BOOLS]; done) | (simp [*]; done) | ((try simp only [CLOS, beq_iff_eq, bne_iff_ne, ne_eq] at *) <;> omega) | (simp_all; done) | (simp_all <;> omega))
  refine AW.cond (b := ((!r5 || decide (r8 < 0)) || !r11)) rfl (fun hb14 => ?_) (fun hb14 => ?_)
  · replace h := bif_t hb14 h
    refine AW.seq ?_
    replace h := Option.bind_eq_some_iff.1 h; obtain ⟨r15, q16, h⟩ := h
    have f17 := c_F8 r15 q16
    try dsimp only at f17
    refine AW.reg hS [(6, .pv (.bool r15))] [.var [.pv (.int .i64 w3.kind_), .pv (.str w3.text_), .pv (.str w3.quoted_), .pv (.slice (List.map Word.pv w3.words_)), .pv (.slice (List.map Cmd.pv w3.cmd_))]] ?_ ?_
    · simp -implicitDefEqProofs only [RUNS, qindex, Nat.reduceAdd, Nat.reduceLeDiff, Nat.reduceSub, reduceIte, Nat.reduceEqDiff, Nat.reduceLT, reduceCtorEq, Nat.reduceMul, Nat.reduceBEq, Int.reduceEq, if_true, if_false, eq_self, ne_eq, env_bT, P31_eq, Redir.pv_eq, P154_eq, Cmd.pv_eq, P32_eq, Word.pv_eq, GValue.pv_eq, P22_eq, Var.pv_eq, P52_eq, GEnv.pv_eq, pf_8, f17]
    refine AW.ret ?_
    cases h
    show finish _ _ _ _ _ = _
    first | rfl | (simp [finish, resOf, renArgs, toPV, selObjs, sl])
  · replace h := bif_f hb14 h
    refine AW.skip ?_
    refine AW.seq ?_
    replace h := Option.bind_eq_some_iff.1 h; obtain ⟨⟨r18, r19, r20⟩, q21, h⟩ := h
    dsimp only at h
    have f22 := c_F17 l1 n2 w3 r18 r19 r20 q21
    try dsimp only at f22
    refine AW.reg hS [(5, .ref 0 0), (7, .pv (.slice (List.map PV.str r18))), (8, .pv (.slice (List.map PV.str r19))), (9, .pv (.int .i64 r20))] [.var [.pv (.int .i64 w3.kind_), .pv (.str w3.text_), .pv (.str w3.quoted_), .pv (.slice (List.map Word.pv w3.words_)), .pv (.slice (List.map Cmd.pv w3.cmd_))]] ?_ ?_
    · simp -implicitDefEqProofs only [RUNS, qindex, Nat.reduceAdd, Nat.reduceLeDiff, Nat.reduceSub, reduceIte, Nat.reduceEqDiff, Nat.reduceLT, reduceCtorEq, Nat.reduceMul, Nat.reduceBEq, Int.reduceEq, if_true, if_false, eq_self, ne_eq, env_bT, T_3, T_30, T_34, T_54, P31_eq, Redir.pv_eq, P154_eq, Cmd.pv_eq, P32_eq, Word.pv_eq, GValue.pv_eq, P22_eq, Var.pv_eq, P52_eq, GEnv.pv_eq, pf_17, f22]
    refine AW.seq ?_
    refine AW.seq ?_
    refine AW.reg hS [(5, .ref 0 0), (7, .pv (.slice (List.map PV.str r18))), (8, .pv (.slice (List.map PV.str r19))), (35, .pv (.bool (!decide (r20 = 0))))] [.var [.pv (.int .i64 w3.kind_), .pv (.str w3.text_), .pv (.str w3.quoted_), .pv (.slice (List.map Word.pv w3.words_)), .pv (.slice (List.map Cmd.pv w3.cmd_))]] ?_ ?_
    · simp -implicitDefEqProofs only [RUNS, qindex, Nat.reduceAdd, Nat.reduceLeDiff, Nat.reduceSub, reduceIte, Nat.reduceEqDiff, Nat.reduceLT, reduceCtorEq, Nat.reduceMul, Nat.reduceBEq, Int.reduceEq, if_true, if_false, eq_self, ne_eq, env_bT, T_25, P31_eq, Redir.pv_eq, P154_eq, Cmd.pv_eq, P32_eq, Word.pv_eq, GValue.pv_eq, P22_eq, Var.pv_eq, P52_eq, GEnv.pv_eq, eqT_25]
    refine AW.cond (b := !decide (r20 = 0)) rfl (fun hb23 => ?_) (fun hb23 => ?_)
    · replace h := bif_t hb23 h
      refine AW.seq ?_
      replace h := Option.bind_eq_some_iff.1 h; obtain ⟨r24, q25, h⟩ := h
      have f26 := fun hg => c_F8 r24 (guardO_t q25 hg)
      try dsimp only at f26
      refine AW.reg hS [(6, .pv (.bool ((decide ((r18.length : Int) = 0) && decide ((r19.length : Int) = 0)) && r24)))] [.var [.pv (.int .i64 w3.kind_), .pv (.str w3.text_), .pv (.str w3.quoted_), .pv (.slice (List.map Word.pv w3.words_)), .pv (.slice (List.map Cmd.pv w3.cmd_))]] ?_ ?_
      · clear h
        (simp -implicitDefEqProofs only [RUNS, qindex, Nat.reduceAdd, Nat.reduceLeDiff, Nat.reduceSub, reduceIte, Nat.reduceEqDiff, Nat.reduceLT, reduceCtorEq, Nat.reduceMul, Nat.reduceBEq, Int.reduceEq, if_true, if_false, eq_self, ne_eq, env_bT, T_3, T_9, T_22, P31_eq, Redir.pv_eq, P154_eq, Cmd.pv_eq, P32_eq, Word.pv_eq, GValue.pv_eq, P22_eq, Var.pv_eq, P52_eq, GEnv.pv_eq, eqT_3, pf_8, f26]); repeat' (split <;> rename_i hb <;> (try simp only [HBS, ge_iff_le, gt_iff_lt] at hb) <;> simp -implicitDefEqProofs only [RUNS, qindex, Nat.reduceAdd, Nat.reduceLeDiff, Nat.reduceSub, reduceIte, Nat.reduceEqDiff, Nat.reduceLT, reduceCtorEq, Nat.reduceMul, Nat.reduceBEq, Int.reduceEq, if_true, if_false, eq_self, ne_eq, env_bT, T_3, T_9, T_22, P31_eq, Redir.pv_eq, P154_eq, Cmd.pv_eq, P32_eq, Word.pv_eq, GValue.pv_eq, P22_eq, Var.pv_eq, P52_eq, GEnv.pv_eq, eqT_3, pf_8, f26, *, decide_true, decide_false, Decidable.not_not, not_false_eq_true, not_true_eq_false])
        all_goals (first | (simp only [BOOLS]; done) | (simp [*]; done) | ((try simp only [CLOS, beq_iff_eq, bne_iff_ne, ne_eq] at *) <;> omega) | (simp_all; done) | (simp_all <;> omega))
      refine AW.ret ?_
      cases h
      show finish _ _ _ _ _ = _
      first | rfl | (simp [finish, resOf, renArgs, toPV, selObjs, sl])
    · replace h := bif_f hb23 h
      refine AW.skip ?_
      refine AW.seq ?_
      refine AW.seq ?_
      refine AW.reg hS [(5, .ref 0 0), (7, .pv (.slice (List.map PV.str r18))), (8, .pv (.slice (List.map PV.str r19))), (51, .pv (.bool (!decide ((r18.length : Int) = (r19.length : Int)))))] [.var [.pv (.int .i64 w3.kind_), .pv (.str w3.text_), .pv (.str w3.quoted_), .pv (.slice (List.map Word.pv w3.words_)), .pv (.slice (List.map Cmd.pv w3.cmd_))]] ?_ ?_
      · simp -implicitDefEqProofs only [RUNS, qindex, Nat.reduceAdd, Nat.reduceLeDiff, Nat.reduceSub, reduceIte, Nat.reduceEqDiff, Nat.reduceLT, reduceCtorEq, Nat.reduceMul, Nat.reduceBEq, Int.reduceEq, if_true, if_false, eq_self, ne_eq, env_bT, T_3, T_9, T_22, P31_eq, Redir.pv_eq, P154_eq, Cmd.pv_eq, P32_eq, Word.pv_eq, GValue.pv_eq, P22_eq, Var.pv_eq, P52_eq, GEnv.pv_eq, eqT_3]
      refine AW.cond (b := !decide ((r18.length : Int) = (r19.length : Int))) rfl (fun hb27 => ?_) (fun hb27 => ?_)
      · replace h := bif_t hb27 h
        refine AW.seq ?_
        refine AW.reg hS [(6, .pv (.bool false))] [.var [.pv (.int .i64 w3.kind_), .pv (.str w3.text_), .pv (.str w3.quoted_), .pv (.slice (List.map Word.pv w3.words_)), .pv (.slice (List.map Cmd.pv w3.cmd_))]] ?_ ?_
        · simp -implicitDefEqProofs only [RUNS, qindex, Nat.reduceAdd, Nat.reduceLeDiff, Nat.reduceSub, reduceIte, Nat.reduceEqDiff, Nat.reduceLT, reduceCtorEq, Nat.reduceMul, Nat.reduceBEq, Int.reduceEq, if_true, if_false, eq_self, ne_eq, env_bT, P31_eq, Redir.pv_eq, P154_eq, Cmd.pv_eq, P32_eq, Word.pv_eq, GValue.pv_eq, P22_eq, Var.pv_eq, P52_eq, GEnv.pv_eq]
        refine AW.ret ?_
        cases h
        show finish _ _ _ _ _ = _
        first | rfl | (simp [finish, resOf, renArgs, toPV, selObjs, sl])
      · replace h := bif_f hb27 h
        refine AW.skip ?_
        refine AW.seq ?_
        refine AW.seq ?_
        refine AW.reg hS [(5, .ref 0 0), (7, .pv (.slice (List.map PV.str r18))), (8, .pv (.slice (List.map PV.str r19))), (53, .pv (.int .i64 (r18.length : Int))), (54, .pv (.int .i64 0))] [.var [.pv (.int .i64 w3.kind_), .pv (.str w3.text_), .pv (.str w3.quoted_), .pv (.slice (List.map Word.pv w3.words_)), .pv (.slice (List.map Cmd.pv w3.cmd_))]] ?_ ?_
        · simp -implicitDefEqProofs only [RUNS, qindex, Nat.reduceAdd, Nat.reduceLeDiff, Nat.reduceSub, reduceIte, Nat.reduceEqDiff, Nat.reduceLT, reduceCtorEq, Nat.reduceMul, Nat.reduceBEq, Int.reduceEq, if_true, if_false, eq_self, ne_eq, env_bT, T_9, T_22, P31_eq, Redir.pv_eq, P154_eq, Cmd.pv_eq, P32_eq, Word.pv_eq, GValue.pv_eq, P22_eq, Var.pv_eq, P52_eq, GEnv.pv_eq]
        refine AW.block ?_
        refine AW.weak (Weak.slots (L := [(5, .ref 0 0), (7, .pv (.slice (List.map PV.str r18))), (8, .pv (.slice (List.map PV.str r19))), (53, .pv (.int .i64 (r18.length : Int))), (54, .pv (.int .i64 0))]) ⟨rfl, rfl, rfl, rfl, rfl, trivial⟩) ?_
        refine AW.loopI (α := Nat × Int) (fun (_, i28) => ⟨sl [(5, .ref 0 0), (7, .pv (.slice (List.map PV.str r18))), (8, .pv (.slice (List.map PV.str r19))), (53, .pv (.int .i64 (r18.length : Int))), (54, .pv (.int .i64 i28))], 101, [.var [.pv (.int .i64 w3.kind_), .pv (.str w3.text_), .pv (.str w3.quoted_), .pv (.slice (List.map Word.pv w3.words_)), .pv (.slice (List.map Cmd.pv w3.cmd_))]]⟩) (fun x => iter (F4_b2 r18 r19 w3) x.1 x.2 = some r4) (fun x => x.1) (BIG, 0) h ?_
        clear h
        intro ⟨n53, i28⟩ h
        replace h := iter_some h; obtain ⟨m31, rfl, h⟩ := h
        rw [F4_b2] at h
        try dsimp only at h
        show AW _ _ _ _ ⟨sl [(5, .ref 0 0), (7, .pv (.slice (List.map PV.str r18))), (8, .pv (.slice (List.map PV.str r19))), (53, .pv (.int .i64 (r18.length : Int))), (54, .pv (.int .i64 i28))], 101, [.var [.pv (.int .i64 w3.kind_), .pv (.str w3.text_), .pv (.str w3.quoted_), .pv (.slice (List.map Word.pv w3.words_)), .pv (.slice (List.map Cmd.pv w3.cmd_))]]⟩
        refine AW.seq ?_
        refine AW.reg hS [(5, .ref 0 0), (7, .pv (.slice (List.map PV.str r18))), (8, .pv (.slice (List.map PV.str r19))), (53, .pv (.int .i64 (r18.length : Int))), (54, .pv (.int .i64 i28)), (55, .pv (.bool (decide (i28 < (r18.length : Int)))))] [.var [.pv (.int .i64 w3.kind_), .pv (.str w3.text_), .pv (.str w3.quoted_), .pv (.slice (List.map Word.pv w3.words_)), .pv (.slice (List.map Cmd.pv w3.cmd_))]] ?_ ?_
        · simp -implicitDefEqProofs only [RUNS, qindex, Nat.reduceAdd, Nat.reduceLeDiff, Nat.reduceSub, reduceIte, Nat.reduceEqDiff, Nat.reduceLT, reduceCtorEq, Nat.reduceMul, Nat.reduceBEq, Int.reduceEq, if_true, if_false, eq_self, ne_eq, env_bT, T_3, P31_eq, Redir.pv_eq, P154_eq, Cmd.pv_eq, P32_eq, Word.pv_eq, GValue.pv_eq, P22_eq, Var.pv_eq, P52_eq, GEnv.pv_eq, eqT_3]
        refine AW.seq ?_
        refine AW.cond (b := decide (i28 < (r18.length : Int))) rfl (fun hb32 => ?_) (fun hb32 => ?_)
        · replace h := bif_t hb32 h
          refine AW.skip ?_
          refine AW.seq ?_
          refine AW.block ?_
          refine AW.seq ?_
          refine AW.reg hS [(5, .ref 0 0), (7, .pv (.slice (List.map PV.str r18))), (8, .pv (.slice (List.map PV.str r19))), (10, .pv (.int .i64 i28)), (53, .pv (.int .i64 (r18.length : Int))), (54, .pv (.int .i64 i28))] [.var [.pv (.int .i64 w3.kind_), .pv (.str w3.text_), .pv (.str w3.quoted_), .pv (.slice (List.map Word.pv w3.words_)), .pv (.slice (List.map Cmd.pv w3.cmd_))]] ?_ ?_
          · simp -implicitDefEqProofs only [RUNS, qindex, Nat.reduceAdd, Nat.reduceLeDiff, Nat.reduceSub, reduceIte, Nat.reduceEqDiff, Nat.reduceLT, reduceCtorEq, Nat.reduceMul, Nat.reduceBEq, Int.reduceEq, if_true, if_false, eq_self, ne_eq, env_bT, P31_eq, Redir.pv_eq, P154_eq, Cmd.pv_eq, P32_eq, Word.pv_eq, GValue.pv_eq, P22_eq, Var.pv_eq, P52_eq, GEnv.pv_eq]
          refine AW.seq ?_
          refine AW.seq ?_
          replace h := Option.bind_eq_some_iff.1 h; obtain ⟨w33, q34, h⟩ := h
          have f35 := lidx_f q34
          replace h := Option.bind_eq_some_iff.1 h; obtain ⟨w36, q37, h⟩ := h
          have f38 := lidx_f q37
          refine AW.dreg mixed hS (hpf ▸ (by kernel_rfl : orderOK pfn _ = true)) [(5, .ref 0 0), (7, .pv (.slice (List.map PV.str r18))), (8, .pv (.slice (List.map PV.str r19))), (10, .pv (.int .i64 i28)), (53, .pv (.int .i64 (r18.length : Int))), (54, .pv (.int .i64 i28)), (67, .pv (.bool (!decide ((w33.length : Int) = (w36.length : Int)))))] [.var [.pv (.int .i64 w3.kind_), .pv (.str w3.text_), .pv (.str w3.quoted_), .pv (.slice (List.map Word.pv w3.words_)), .pv (.slice (List.map Cmd.pv w3.cmd_))]] ?_ ?_
          · simp -implicitDefEqProofs only [RUNS, qindex, Nat.reduceAdd, Nat.reduceLeDiff, Nat.reduceSub, reduceIte, Nat.reduceEqDiff, Nat.reduceLT, reduceCtorEq, Nat.reduceMul, Nat.reduceBEq, Int.reduceEq, if_true, if_false, eq_self, ne_eq, env_bT, T_3, T_9, T_22, P31_eq, Redir.pv_eq, P154_eq, Cmd.pv_eq, P32_eq, Word.pv_eq, GValue.pv_eq, P22_eq, Var.pv_eq, P52_eq, GEnv.pv_eq, f35.1, f35.2.1, f38.1, f38.2.1, eqT_3]
          refine AW.cond (b := !decide ((w33.length : Int) = (w36.length : Int))) rfl (fun hb39 => ?_) (fun hb39 => ?_)
          · replace h := bif_t hb39 h
            refine AW.seq ?_
            refine AW.reg hS [(6, .pv (.bool false))] [.var [.pv (.int .i64 w3.kind_), .pv (.str w3.text_), .pv (.str w3.quoted_), .pv (.slice (List.map Word.pv w3.words_)), .pv (.slice (List.map Cmd.pv w3.cmd_))]] ?_ ?_
            · simp -implicitDefEqProofs only [RUNS, qindex, Nat.reduceAdd, Nat.reduceLeDiff, Nat.reduceSub, reduceIte, Nat.reduceEqDiff, Nat.reduceLT, reduceCtorEq, Nat.reduceMul, Nat.reduceBEq, Int.reduceEq, if_true, if_false, eq_self, ne_eq, env_bT, P31_eq, Redir.pv_eq, P154_eq, Cmd.pv_eq, P32_eq, Word.pv_eq, GValue.pv_eq, P22_eq, Var.pv_eq, P52_eq, GEnv.pv_eq]
            refine AW.ret ?_
            cases h
            show finish _ _ _ _ _ = _
            first | rfl | (simp [finish, resOf, renArgs, toPV, selObjs, sl])
          · replace h := bif_f hb39 h
            refine AW.skip ?_
            refine AW.seq ?_
            refine AW.reg hS [(5, .ref 0 0), (7, .pv (.slice (List.map PV.str r18))), (8, .pv (.slice (List.map PV.str r19))), (10, .pv (.int .i64 i28)), (53, .pv (.int .i64 (r18.length : Int))), (54, .pv (.int .i64 i28)), (72, .pv (.int .i64 (w36.length : Int))), (73, .pv (.int .i64 0))] [.var [.pv (.int .i64 w3.kind_), .pv (.str w3.text_), .pv (.str w3.quoted_), .pv (.slice (List.map Word.pv w3.words_)), .pv (.slice (List.map Cmd.pv w3.cmd_))]] ?_ ?_
            · simp -implicitDefEqProofs only [RUNS, qindex, Nat.reduceAdd, Nat.reduceLeDiff, Nat.reduceSub, reduceIte, Nat.reduceEqDiff, Nat.reduceLT, reduceCtorEq, Nat.reduceMul, Nat.reduceBEq, Int.reduceEq, if_true, if_false, eq_self, ne_eq, env_bT, T_9, T_22, P31_eq, Redir.pv_eq, P154_eq, Cmd.pv_eq, P32_eq, Word.pv_eq, GValue.pv_eq, P22_eq, Var.pv_eq, P52_eq, GEnv.pv_eq, f38.1, f38.2.1]
            refine AW.block ?_
            refine AW.weak (Weak.slots (L := [(5, .ref 0 0), (7, .pv (.slice (List.map PV.str r18))), (8, .pv (.slice (List.map PV.str r19))), (10, .pv (.int .i64 i28)), (53, .pv (.int .i64 (r18.length : Int))), (54, .pv (.int .i64 i28)), (72, .pv (.int .i64 (w36.length : Int))), (73, .pv (.int .i64 0))]) ⟨rfl, rfl, rfl, rfl, rfl, rfl, rfl, rfl, trivial⟩) ?_
            refine AW.loopI (α := Nat × Int) (fun (_, i40) => ⟨sl [(5, .ref 0 0), (7, .pv (.slice (List.map PV.str r18))), (8, .pv (.slice (List.map PV.str r19))), (10, .pv (.int .i64 i28)), (53, .pv (.int .i64 (r18.length : Int))), (54, .pv (.int .i64 i28)), (72, .pv (.int .i64 (w36.length : Int))), (73, .pv (.int .i64 i40))], 101, [.var [.pv (.int .i64 w3.kind_), .pv (.str w3.text_), .pv (.str w3.quoted_), .pv (.slice (List.map Word.pv w3.words_)), .pv (.slice (List.map Cmd.pv w3.cmd_))]]⟩) (fun x => iter (F4_b3 w36 w3 (iter (F4_b2 r18 r19 w3) m31) i28) x.1 x.2 = some r4) (fun x => x.1) (BIG, 0) h ?_
            clear h
            intro ⟨n49, i40⟩ h
            replace h := iter_some h; obtain ⟨m43, rfl, h⟩ := h
            rw [F4_b3] at h
            try dsimp only at h
            show AW _ _ _ _ ⟨sl [(5, .ref 0 0), (7, .pv (.slice (List.map PV.str r18))), (8, .pv (.slice (List.map PV.str r19))), (10, .pv (.int .i64 i28)), (53, .pv (.int .i64 (r18.length : Int))), (54, .pv (.int .i64 i28)), (72, .pv (.int .i64 (w36.length : Int))), (73, .pv (.int .i64 i40))], 101, [.var [.pv (.int .i64 w3.kind_), .pv (.str w3.text_), .pv (.str w3.quoted_), .pv (.slice (List.map Word.pv w3.words_)), .pv (.slice (List.map Cmd.pv w3.cmd_))]]⟩
            refine AW.seq ?_
            refine AW.reg hS [(5, .ref 0 0), (7, .pv (.slice (List.map PV.str r18))), (8, .pv (.slice (List.map PV.str r19))), (10, .pv (.int .i64 i28)), (53, .pv (.int .i64 (r18.length : Int))), (54, .pv (.int .i64 i28)), (72, .pv (.int .i64 (w36.length : Int))), (73, .pv (.int .i64 i40)), (74, .pv (.bool (decide (i40 < (w36.length : Int)))))] [.var [.pv (.int .i64 w3.kind_), .pv (.str w3.text_), .pv (.str w3.quoted_), .pv (.slice (List.map Word.pv w3.words_)), .pv (.slice (List.map Cmd.pv w3.cmd_))]] ?_ ?_
            · simp -implicitDefEqProofs only [RUNS, qindex, Nat.reduceAdd, Nat.reduceLeDiff, Nat.reduceSub, reduceIte, Nat.reduceEqDiff, Nat.reduceLT, reduceCtorEq, Nat.reduceMul, Nat.reduceBEq, Int.reduceEq, if_true, if_false, eq_self, ne_eq, env_bT, T_3, P31_eq, Redir.pv_eq, P154_eq, Cmd.pv_eq, P32_eq, Word.pv_eq, GValue.pv_eq, P22_eq, Var.pv_eq, P52_eq, GEnv.pv_eq, eqT_3]
            refine AW.seq ?_
            refine AW.cond (b := decide (i40 < (w36.length : Int))) rfl (fun hb44 => ?_) (fun hb44 => ?_)
            · replace h := bif_t hb44 h
              refine AW.skip ?_
              refine AW.seq ?_
              refine AW.block ?_
              refine AW.seq ?_
              refine AW.reg hS [(5, .ref 0 0), (7, .pv (.slice (List.map PV.str r18))), (8, .pv (.slice (List.map PV.str r19))), (10, .pv (.int .i64 i28)), (11, .pv (.int .i64 i40)), (53, .pv (.int .i64 (r18.length : Int))), (54, .pv (.int .i64 i28)), (72, .pv (.int .i64 (w36.length : Int))), (73, .pv (.int .i64 i40))] [.var [.pv (.int .i64 w3.kind_), .pv (.str w3.text_), .pv (.str w3.quoted_), .pv (.slice (List.map Word.pv w3.words_)), .pv (.slice (List.map Cmd.pv w3.cmd_))]] ?_ ?_
              · simp -implicitDefEqProofs only [RUNS, qindex, Nat.reduceAdd, Nat.reduceLeDiff, Nat.reduceSub, reduceIte, Nat.reduceEqDiff, Nat.reduceLT, reduceCtorEq, Nat.reduceMul, Nat.reduceBEq, Int.reduceEq, if_true, if_false, eq_self, ne_eq, env_bT, P31_eq, Redir.pv_eq, P154_eq, Cmd.pv_eq, P32_eq, Word.pv_eq, GValue.pv_eq, P22_eq, Var.pv_eq, P52_eq, GEnv.pv_eq]
              refine AW.seq ?_
              replace h := Option.bind_eq_some_iff.1 h; obtain ⟨c45, q46, h⟩ := h
              have f47 := sidx_f q46
              refine AW.reg hS [(5, .ref 0 0), (7, .pv (.slice (List.map PV.str r18))), (8, .pv (.slice (List.map PV.str r19))), (10, .pv (.int .i64 i28)), (53, .pv (.int .i64 (r18.length : Int))), (54, .pv (.int .i64 i28)), (72, .pv (.int .i64 (w36.length : Int))), (73, .pv (.int .i64 i40)), (97, .pv (.bool (!decide (c45 = 49) && ((decide (w3.kind_ = 2) || decide (w3.kind_ = 3)) || decide (w3.kind_ = 7)))))] [.var [.pv (.int .i64 w3.kind_), .pv (.str w3.text_), .pv (.str w3.quoted_), .pv (.slice (List.map Word.pv w3.words_)), .pv (.slice (List.map Cmd.pv w3.cmd_))]] ?_ ?_
              · clear h
                (simp -implicitDefEqProofs only [RUNS, qindex, Nat.reduceAdd, Nat.reduceLeDiff, Nat.reduceSub, reduceIte, Nat.reduceEqDiff, Nat.reduceLT, reduceCtorEq, Nat.reduceMul, Nat.reduceBEq, Int.reduceEq, if_true, if_false, eq_self, ne_eq, env_bT, T_3, T_5, T_9, T_22, T_34, P31_eq, Redir.pv_eq, P154_eq, Cmd.pv_eq, P32_eq, Word.pv_eq, GValue.pv_eq, P22_eq, Var.pv_eq, P52_eq, GEnv.pv_eq, f38.1, f38.2.1, f47.1, f47.2.1, f47.2.2, eqT_5, eqT_3]); repeat' (split <;> rename_i hb <;> (try simp only [HBS, ge_iff_le, gt_iff_lt] at hb) <;> simp -implicitDefEqProofs only [RUNS, qindex, Nat.reduceAdd, Nat.reduceLeDiff, Nat.reduceSub, reduceIte, Nat.reduceEqDiff, Nat.reduceLT, reduceCtorEq, Nat.reduceMul, Nat.reduceBEq, Int.reduceEq, if_true, if_false, eq_self, ne_eq, env_bT, T_3, T_5, T_9, T_22, T_34, P31_eq, Redir.pv_eq, P154_eq, Cmd.pv_eq, P32_eq, Word.pv_eq, GValue.pv_eq, P22_eq, Var.pv_eq, P52_eq, GEnv.pv_eq, f38.1, f38.2.1, f47.1, f47.2.1, f47.2.2, eqT_5, eqT_3, *, decide_true, decide_false, Decidable.not_not, not_false_eq_true, not_true_eq_false])
                all_goals (first | (simp only [BOOLS]; done) | (simp [*]; done) | ((try simp only [CLOS, beq_iff_eq, bne_iff_ne, ne_eq] at *) <;> omega) | (simp_all; done) | (simp_all <;> omega))
              refine AW.cond (b := (!decide (c45 = 49) && ((decide (w3.kind_ = 2) || decide (w3.kind_ = 3)) || decide (w3.kind_ = 7)))) rfl (fun hb48 => ?_) (fun hb48 => ?_)
              · replace h := bif_t hb48 h
                refine AW.seq ?_
                refine AW.reg hS [(6, .pv (.bool false))] [.var [.pv (.int .i64 w3.kind_), .pv (.str w3.text_), .pv (.str w3.quoted_), .pv (.slice (List.map Word.pv w3.words_)), .pv (.slice (List.map Cmd.pv w3.cmd_))]] ?_ ?_
                · simp -implicitDefEqProofs only [RUNS, qindex, Nat.reduceAdd, Nat.reduceLeDiff, Nat.reduceSub, reduceIte, Nat.reduceEqDiff, Nat.reduceLT, reduceCtorEq, Nat.reduceMul, Nat.reduceBEq, Int.reduceEq, if_true, if_false, eq_self, ne_eq, env_bT, P31_eq, Redir.pv_eq, P154_eq, Cmd.pv_eq, P32_eq, Word.pv_eq, GValue.pv_eq, P22_eq, Var.pv_eq, P52_eq, GEnv.pv_eq]
                refine AW.ret ?_
                cases h
                show finish _ _ _ _ _ = _
                first | rfl | (simp [finish, resOf, renArgs, toPV, selObjs, sl])
              · replace h := bif_f hb48 h
                refine AW.skip ?_
                refine AW.reg hS [(5, .ref 0 0), (7, .pv (.slice (List.map PV.str r18))), (8, .pv (.slice (List.map PV.str r19))), (10, .pv (.int .i64 i28)), (53, .pv (.int .i64 (r18.length : Int))), (54, .pv (.int .i64 i28)), (72, .pv (.int .i64 (w36.length : Int))), (73, .pv (.int .i64 (IntKind.wrap .i64 (i40 + 1))))] [.var [.pv (.int .i64 w3.kind_), .pv (.str w3.text_), .pv (.str w3.quoted_), .pv (.slice (List.map Word.pv w3.words_)), .pv (.slice (List.map Cmd.pv w3.cmd_))]] ?_ ?_
                · simp -implicitDefEqProofs only [RUNS, qindex, Nat.reduceAdd, Nat.reduceLeDiff, Nat.reduceSub, reduceIte, Nat.reduceEqDiff, Nat.reduceLT, reduceCtorEq, Nat.reduceMul, Nat.reduceBEq, Int.reduceEq, if_true, if_false, eq_self, ne_eq, env_bT, T_3, P31_eq, Redir.pv_eq, P154_eq, Cmd.pv_eq, P32_eq, Word.pv_eq, GValue.pv_eq, P22_eq, Var.pv_eq, P52_eq, GEnv.pv_eq, eqT_3]
                exact ⟨(m43, IntKind.wrap .i64 (i40 + 1)), h, (Weak.norm (m := 1) (Nat.le_of_ble_eq_true rfl) ⟨rfl, rfl, rfl, rfl, rfl, rfl, rfl, rfl, trivial⟩ rfl rfl rfl), Nat.lt_succ_self _⟩
            · replace h := bif_f hb44 h
              refine AW.exit ?_
              refine AW.reg hS [(5, .ref 0 0), (7, .pv (.slice (List.map PV.str r18))), (8, .pv (.slice (List.map PV.str r19))), (53, .pv (.int .i64 (r18.length : Int))), (54, .pv (.int .i64 (IntKind.wrap .i64 (i28 + 1))))] [.var [.pv (.int .i64 w3.kind_), .pv (.str w3.text_), .pv (.str w3.quoted_), .pv (.slice (List.map Word.pv w3.words_)), .pv (.slice (List.map Cmd.pv w3.cmd_))]] ?_ ?_
              · simp -implicitDefEqProofs only [RUNS, qindex, Nat.reduceAdd, Nat.reduceLeDiff, Nat.reduceSub, reduceIte, Nat.reduceEqDiff, Nat.reduceLT, reduceCtorEq, Nat.reduceMul, Nat.reduceBEq, Int.reduceEq, if_true, if_false, eq_self, ne_eq, env_bT, T_3, P31_eq, Redir.pv_eq, P154_eq, Cmd.pv_eq, P32_eq, Word.pv_eq, GValue.pv_eq, P22_eq, Var.pv_eq, P52_eq, GEnv.pv_eq, eqT_3]
              exact ⟨(m31, IntKind.wrap .i64 (i28 + 1)), h, (Weak.norm (m := 1) (Nat.le_of_ble_eq_true rfl) ⟨rfl, rfl, rfl, rfl, rfl, trivial⟩ rfl rfl rfl), Nat.lt_succ_self _⟩
        · replace h := bif_f hb32 h
          refine AW.exit ?_
          refine AW.seq ?_
          replace h := Option.bind_eq_some_iff.1 h; obtain ⟨r50, q51, h⟩ := h
          have f52 := c_F8 r50 q51
          try dsimp only at f52
          refine AW.reg hS [(6, .pv (.bool r50))] [.var [.pv (.int .i64 w3.kind_), .pv (.str w3.text_), .pv (.str w3.quoted_), .pv (.slice (List.map Word.pv w3.words_)), .pv (.slice (List.map Cmd.pv w3.cmd_))]] ?_ ?_
          · simp -implicitDefEqProofs only [RUNS, qindex, Nat.reduceAdd, Nat.reduceLeDiff, Nat.reduceSub, reduceIte, Nat.reduceEqDiff, Nat.reduceLT, reduceCtorEq, Nat.reduceMul, Nat.reduceBEq, Int.reduceEq, if_true, if_false, eq_self, ne_eq, env_bT, P31_eq, Redir.pv_eq, P154_eq, Cmd.pv_eq, P32_eq, Word.pv_eq, GValue.pv_eq, P22_eq, Var.pv_eq, P52_eq, GEnv.pv_eq, pf_8, f52]
          refine AW.ret ?_
          cases h
          show finish _ _ _ _ _ = _
          first | rfl | (simp [finish, resOf, renArgs, toPV, selObjs, sl])

set_option maxHeartbeats 4000000 in
theorem g_F5 {O : Orc} (hS : Sound env O) (hpf : O.pf = pfn) (c_F7 : C_F7 O) (c_F8 : C_F8 O) (c_F9 : C_F9 O) (c_F13 : C_F13 O) (a1 : List Str) (b2 : List Str) (c3 : List Str) (r4 : Bool) (h : F5 a1 b2 c3 = some r4) : Good env 5 [.pv (.slice (List.map PV.str a1)), .pv (.slice (List.map PV.str b2)), .pv (.slice (List.map PV.str c3))] [] [.pv (.bool r4)] [] := by
  have pf_7 : O.pf 7 = true := by rw [hpf]; rfl
  have pf_8 : O.pf 8 = true := by rw [hpf]; rfl
  have pf_9 : O.pf 9 = true := by rw [hpf]; rfl
  have pf_13 : O.pf 13 = true := by rw [hpf]; rfl
  refine Good.start (fn := Tryd.f5) (N := 135) fn_5 rfl rfl (by simp) [] _ rfl rfl ?_
  rw [F5] at h
  refine AW.seq ?_
  refine AW.reg hS [(0, .pv (.slice (List.map PV.str a1))), (1, .pv (.slice (List.map PV.str b2))), (2, .pv (.slice (List.map PV.str c3)))] [] ?_ ?_
  · simp -implicitDefEqProofs only [RUNS, qindex, Nat.reduceAdd, Nat.reduceLeDiff, Nat.reduceSub, reduceIte, Nat.reduceEqDiff, Nat.reduceLT, reduceCtorEq, Nat.reduceMul, Nat.reduceBEq, Int.reduceEq, if_true, if_false, eq_self, ne_eq, env_bT, P31_eq, Redir.pv_eq, P154_eq, Cmd.pv_eq, P32_eq, Word.pv_eq, GValue.pv_eq, P22_eq, Var.pv_eq, P52_eq, GEnv.pv_eq]
  refine AW.seq ?_
  refine AW.seq ?_
  replace h := Option.bind_eq_some_iff.1 h; obtain ⟨r5, q6, h⟩ := h
  have f7 := c_F7 a1 20000 r5 q6
  try dsimp only at f7
  replace h := Option.bind_eq_some_iff.1 h; obtain ⟨r8, q9, h⟩ := h
  have f10 := fun hg => c_F7 b2 20000 r8 (guardO_t q9 hg)
  try dsimp only at f10
  replace h := Option.bind_eq_some_iff.1 h; obtain ⟨r11, q12, h⟩ := h
  have f13 := fun hg => c_F7 c3 20000 r11 (guardO_t q12 hg)
  try dsimp only at f13
  refine AW.reg hS [(0, .pv (.slice (List.map PV.str a1))), (1, .pv (.slice (List.map PV.str b2))), (2, .pv (.slice (List.map PV.str c3))), (32, .pv (.bool ((!r5 || !r8) || !r11)))] [] ?_ ?_
  · clear h
    (simp -implicitDefEqProofs only [RUNS, qindex, Nat.reduceAdd, Nat.reduceLeDiff, Nat.reduceSub, reduceIte, Nat.reduceEqDiff, Nat.reduceLT, reduceCtorEq, Nat.reduceMul, Nat.reduceBEq, Int.reduceEq, if_true, if_false, eq_self, ne_eq, env_bT, T_3, T_9, T_22, P31_eq, Redir.pv_eq, P154_eq, Cmd.pv_eq, P32_eq, Word.pv_eq, GValue.pv_eq, P22_eq, Var.pv_eq, P52_eq, GEnv.pv_eq, pf_7, f7, f10, f13]); repeat' (split <;> rename_i hb <;> (try simp only [HBS, ge_iff_le, gt_iff_lt] at hb) <;> simp -implicitDefEqProofs only [RUNS, qindex, Nat.reduceAdd, Nat.reduceLeDiff, Nat.reduceSub, reduceIte, Nat.reduceEqDiff, Nat.reduceLT, reduceCtorEq, Nat.reduceMul, Nat.reduceBEq, Int.reduceEq, if_true, if_false, eq_self, ne_eq, env_bT, T_3, T_9, T_22, P31_eq, Redir.pv_eq, P154_eq, Cmd.pv_eq, P32_eq, Word.pv_eq, GValue.pv_eq, P22_eq, Var.pv_eq, P52_eq, GEnv.pv_eq, pf_7, f7, f10, f13, *, decide_true, decide_false, Decidable.not_not, not_false_eq_true, not_true_eq_false])
    all_goals (first | (simp only [BOOLS]; done) | (simp [*]; done) | ((try simp only [CLOS, beq_iff_eq, bne_iff_ne, ne_eq] at *) <;> omega) | (simp_all; done) | (simp_all <;> omega))
  refine AW.cond (b := ((!r5 || !r8) || !r11)) rfl (fun hb14 => ?_) (fun hb14 => ?_)
  · replace h := bif_t hb14 h
    refine AW.seq ?_
    replace h := Option.bind_eq_some_iff.1 h; obtain ⟨r15, q16, h⟩ := h
    have f17 := c_F8 r15 q16
    try dsimp only at f17
    refine AW.reg hS [(6, .pv (.bool r15))] [] ?_ ?_
    · simp -implicitDefEqProofs only [RUNS, qindex, Nat.reduceAdd, Nat.reduceLeDiff, Nat.reduceSub, reduceIte, Nat.reduceEqDiff, Nat.reduceLT, reduceCtorEq, Nat.reduceMul, Nat.reduceBEq, Int.reduceEq, if_true, if_false, eq_self, ne_eq, env_bT, P31_eq, Redir.pv_eq, P154_eq, Cmd.pv_eq, P32_eq, Word.pv_eq, GValue.pv_eq, P22_eq, Var.pv_eq, P52_eq, GEnv.pv_eq, pf_8, f17]
    refine AW.ret ?_
    cases h
    show finish _ _ _ _ _ = _
    first | rfl | (simp [finish, resOf, renArgs, toPV, selObjs, sl])
  · replace h := bif_f hb14 h
    refine AW.skip ?_
    refine AW.seqJ (α := Unit) (fun _ => ⟨sl [(0, .pv (.slice (List.map PV.str a1))), (1, .pv (.slice (List.map PV.str b2))), (2, .pv (.slice (List.map PV.str c3)))], 135, []⟩) (fun x => F5_j1 a1 b2 c3 x = some r4) ?_ ?_
    · intro _ h
      rw [F5_j1] at h
      try dsimp only at h
      show AW _ _ _ _ ⟨sl [(0, .pv (.slice (List.map PV.str a1))), (1, .pv (.slice (List.map PV.str b2))), (2, .pv (.slice (List.map PV.str c3)))], 135, []⟩
      refine AW.seq ?_
      refine AW.reg hS [(0, .pv (.slice (List.map PV.str a1))), (1, .pv (.slice (List.map PV.str b2))), (2, .pv (.slice (List.map PV.str c3))), (11, .pv (.int .i64 (imin (imin (a1.length : Int) (b2.length : Int)) (c3.length : Int))))] [] ?_ ?_
      · simp -implicitDefEqProofs only [RUNS, qindex, Nat.reduceAdd, Nat.reduceLeDiff, Nat.reduceSub, reduceIte, Nat.reduceEqDiff, Nat.reduceLT, reduceCtorEq, Nat.reduceMul, Nat.reduceBEq, Int.reduceEq, if_true, if_false, eq_self, ne_eq, env_bT, T_3, T_9, T_22, P31_eq, Redir.pv_eq, P154_eq, Cmd.pv_eq, P32_eq, Word.pv_eq, GValue.pv_eq, P22_eq, Var.pv_eq, P52_eq, GEnv.pv_eq]
      refine AW.seq ?_
      replace h := Option.bind_eq_some_iff.1 h; obtain ⟨l18, q19, h⟩ := h
      have f20 := lslice_f q19
      have f20l := f20.2.2.1
      try simp only [Int.toNat_natCast, Int.toNat_zero] at f20l
      replace h := Option.bind_eq_some_iff.1 h; obtain ⟨l21, q22, h⟩ := h
      have f23 := lslice_f q22
      have f23l := f23.2.2.1
      try simp only [Int.toNat_natCast, Int.toNat_zero] at f23l
      replace h := Option.bind_eq_some_iff.1 h; obtain ⟨l24, q25, h⟩ := h
      have f26 := lslice_f q25
      have f26l := f26.2.2.1
      try simp only [Int.toNat_natCast, Int.toNat_zero] at f26l
      refine AW.dreg mixed hS (hpf ▸ (by kernel_rfl : orderOK pfn _ = true)) [(0, .pv (.slice (List.map PV.str l18))), (1, .pv (.slice (List.map PV.str l21))), (2, .pv (.slice (List.map PV.str l24))), (11, .pv (.int .i64 (imin (imin (a1.length : Int) (b2.length : Int)) (c3.length : Int))))] [] ?_ ?_
      · simp -implicitDefEqProofs only [RUNS, qindex, Nat.reduceAdd, Nat.reduceLeDiff, Nat.reduceSub, reduceIte, Nat.reduceEqDiff, Nat.reduceLT, reduceCtorEq, Nat.reduceMul, Nat.reduceBEq, Int.reduceEq, if_true, if_false, eq_self, ne_eq, env_bT, T_9, T_22, P31_eq, Redir.pv_eq, P154_eq, Cmd.pv_eq, P32_eq, Word.pv_eq, GValue.pv_eq, P22_eq, Var.pv_eq, P52_eq, GEnv.pv_eq, Nat.sub_zero, List.drop_zero, f20.1, f20.2.1, f20l, f20.2.2.2.1, f20.2.2.2.2, List.map_take, List.map_drop, List.length_map, Int.toNat_natCast, Int.toNat_zero, str_all, f23.1, f23.2.1, f23l, f23.2.2.2.1, f23.2.2.2.2, f26.1, f26.2.1, f26l, f26.2.2.2.1, f26.2.2.2.2] <;> (try simp only [List.length_take, List.length_drop, List.length_map])
      clear f20 f20l
      clear f23 f23l
      clear f26 f26l
      refine AW.seq ?_
      replace h := Option.bind_eq_some_iff.1 h; obtain ⟨⟨r27, r28⟩, q29, h⟩ := h
      dsimp only at h
      have f30 := c_F9 l18 l21 r27 r28 q29
      try dsimp only at f30
      refine AW.reg hS [(0, .pv (.slice (List.map PV.str l18))), (1, .pv (.slice (List.map PV.str l21))), (2, .pv (.slice (List.map PV.str l24))), (11, .pv (.int .i64 (imin (imin (a1.length : Int) (b2.length : Int)) (c3.length : Int)))), (12, .pv (.slice (List.map PV.str r27))), (13, .pv (.int .i64 r28))] [] ?_ ?_
      · simp -implicitDefEqProofs only [RUNS, qindex, Nat.reduceAdd, Nat.reduceLeDiff, Nat.reduceSub, reduceIte, Nat.reduceEqDiff, Nat.reduceLT, reduceCtorEq, Nat.reduceMul, Nat.reduceBEq, Int.reduceEq, if_true, if_false, eq_self, ne_eq, env_bT, T_9, T_22, P31_eq, Redir.pv_eq, P154_eq, Cmd.pv_eq, P32_eq, Word.pv_eq, GValue.pv_eq, P22_eq, Var.pv_eq, P52_eq, GEnv.pv_eq, pf_9, f30]
      refine AW.seq ?_
      replace h := Option.bind_eq_some_iff.1 h; obtain ⟨⟨r31, r32⟩, q33, h⟩ := h
      dsimp only at h
      have f34 := c_F9 l21 l24 r31 r32 q33
      try dsimp only at f34
      refine AW.reg hS [(0, .pv (.slice (List.map PV.str l18))), (2, .pv (.slice (List.map PV.str l24))), (11, .pv (.int .i64 (imin (imin (a1.length : Int) (b2.length : Int)) (c3.length : Int)))), (12, .pv (.slice (List.map PV.str r27))), (13, .pv (.int .i64 r28)), (14, .pv (.slice (List.map PV.str r31))), (15, .pv (.int .i64 r32))] [] ?_ ?_
      · simp -implicitDefEqProofs only [RUNS, qindex, Nat.reduceAdd, Nat.reduceLeDiff, Nat.reduceSub, reduceIte, Nat.reduceEqDiff, Nat.reduceLT, reduceCtorEq, Nat.reduceMul, Nat.reduceBEq, Int.reduceEq, if_true, if_false, eq_self, ne_eq, env_bT, T_9, T_22, P31_eq, Redir.pv_eq, P154_eq, Cmd.pv_eq, P32_eq, Word.pv_eq, GValue.pv_eq, P22_eq, Var.pv_eq, P52_eq, GEnv.pv_eq, pf_9, f34]
      refine AW.seq ?_
      replace h := Option.bind_eq_some_iff.1 h; obtain ⟨⟨r35, r36⟩, q37, h⟩ := h
      dsimp only at h
      have f38 := c_F9 r27 l24 r35 r36 q37
      try dsimp only at f38
      refine AW.reg hS [(0, .pv (.slice (List.map PV.str l18))), (11, .pv (.int .i64 (imin (imin (a1.length : Int) (b2.length : Int)) (c3.length : Int)))), (13, .pv (.int .i64 r28)), (14, .pv (.slice (List.map PV.str r31))), (15, .pv (.int .i64 r32)), (16, .pv (.slice (List.map PV.str r35))), (17, .pv (.int .i64 r36))] [] ?_ ?_
      · simp -implicitDefEqProofs only [RUNS, qindex, Nat.reduceAdd, Nat.reduceLeDiff, Nat.reduceSub, reduceIte, Nat.reduceEqDiff, Nat.reduceLT, reduceCtorEq, Nat.reduceMul, Nat.reduceBEq, Int.reduceEq, if_true, if_false, eq_self, ne_eq, env_bT, T_9, T_22, P31_eq, Redir.pv_eq, P154_eq, Cmd.pv_eq, P32_eq, Word.pv_eq, GValue.pv_eq, P22_eq, Var.pv_eq, P52_eq, GEnv.pv_eq, pf_9, f38]
      refine AW.seq ?_
      replace h := Option.bind_eq_some_iff.1 h; obtain ⟨⟨r39, r40⟩, q41, h⟩ := h
      dsimp only at h
      have f42 := c_F9 l18 r31 r39 r40 q41
      try dsimp only at f42
      refine AW.reg hS [(11, .pv (.int .i64 (imin (imin (a1.length : Int) (b2.length : Int)) (c3.length : Int)))), (13, .pv (.int .i64 r28)), (15, .pv (.int .i64 r32)), (16, .pv (.slice (List.map PV.str r35))), (17, .pv (.int .i64 r36)), (18, .pv (.slice (List.map PV.str r39))), (19, .pv (.int .i64 r40))] [] ?_ ?_
      · simp -implicitDefEqProofs only [RUNS, qindex, Nat.reduceAdd, Nat.reduceLeDiff, Nat.reduceSub, reduceIte, Nat.reduceEqDiff, Nat.reduceLT, reduceCtorEq, Nat.reduceMul, Nat.reduceBEq, Int.reduceEq, if_true, if_false, eq_self, ne_eq, env_bT, T_9, T_22, P31_eq, Redir.pv_eq, P154_eq, Cmd.pv_eq, P32_eq, Word.pv_eq, GValue.pv_eq, P22_eq, Var.pv_eq, P52_eq, GEnv.pv_eq, pf_9, f42]
      refine AW.seq ?_
      replace h := Option.bind_eq_some_iff.1 h; obtain ⟨r43, q44, h⟩ := h
      have f45 := fun hg => c_F13 r35 r39 r43 (guardO_t q44 hg)
      try dsimp only at f45
      replace h := Option.bind_eq_some_iff.1 h; obtain ⟨r46, q47, h⟩ := h
      have f48 := fun hg => c_F8 r46 (guardO_t q47 hg)
      try dsimp only at f48
      refine AW.reg hS [(6, .pv (.bool ((((((decide (r28 = 0) && decide (r32 = 0)) && decide (r36 = 0)) && decide (r40 = 0)) && decide ((r35.length : Int) = imin (imin (a1.length : Int) (b2.length : Int)) (c3.length : Int))) && r43) && r46)))] [] ?_ ?_
      · clear h
        (simp -implicitDefEqProofs only [RUNS, qindex, Nat.reduceAdd, Nat.reduceLeDiff, Nat.reduceSub, reduceIte, Nat.reduceEqDiff, Nat.reduceLT, reduceCtorEq, Nat.reduceMul, Nat.reduceBEq, Int.reduceEq, if_true, if_false, eq_self, ne_eq, env_bT, T_3, T_9, T_22, T_25, P31_eq, Redir.pv_eq, P154_eq, Cmd.pv_eq, P32_eq, Word.pv_eq, GValue.pv_eq, P22_eq, Var.pv_eq, P52_eq, GEnv.pv_eq, eqT_25, eqT_3, pf_13, f45, pf_8, f48]); repeat' (split <;> rename_i hb <;> (try simp only [HBS, ge_iff_le, gt_iff_lt] at hb) <;> simp -implicitDefEqProofs only [RUNS, qindex, Nat.reduceAdd, Nat.reduceLeDiff, Nat.reduceSub, reduceIte, Nat.reduceEqDiff, Nat.reduceLT, reduceCtorEq, Nat.reduceMul, Nat.reduceBEq, Int.reduceEq, if_true, if_false, eq_self, ne_eq, env_bT, T_3, T_9, T_22, T_25, P31_eq, Redir.pv_eq, P154_eq, Cmd.pv_eq, P32_eq, Word.pv_eq, GValue.pv_eq, P22_eq, Var.pv_eq, P52_eq, GEnv.pv_eq, eqT_25, eqT_3, pf_13, f45, pf_8, f48, *, decide_true, decide_false, Decidable.not_not, not_false_eq_true, not_true_eq_false])
        all_goals (first | (simp only [BOOLS]; done) | (simp [*]; done) | ((try simp only [CLOS, beq_iff_eq, bne_iff_ne, ne_eq] at *) <;> omega) | (simp_all; done) | (simp_all <;> omega))
      refine AW.ret ?_
      cases h
      show finish _ _ _ _ _ = _
      first | rfl | (simp [finish, resOf, renArgs, toPV, selObjs, sl])
    refine AW.seq ?_
    refine AW.reg hS [(0, .pv (.slice (List.map PV.str a1))), (1, .pv (.slice (List.map PV.str b2))), (2, .pv (.slice (List.map PV.str c3))), (36, .pv (.bool (decide (0 < (a1.length : Int)))))] [] ?_ ?_
    · simp -implicitDefEqProofs only [RUNS, qindex, Nat.reduceAdd, Nat.reduceLeDiff, Nat.reduceSub, reduceIte, Nat.reduceEqDiff, Nat.reduceLT, reduceCtorEq, Nat.reduceMul, Nat.reduceBEq, Int.reduceEq, if_true, if_false, eq_self, ne_eq, env_bT, T_3, T_9, T_22, P31_eq, Redir.pv_eq, P154_eq, Cmd.pv_eq, P32_eq, Word.pv_eq, GValue.pv_eq, P22_eq, Var.pv_eq, P52_eq, GEnv.pv_eq, eqT_3]
    refine AW.cond (b := decide (0 < (a1.length : Int))) rfl (fun hb49 => ?_) (fun hb49 => ?_)
    · replace h := bif_t hb49 h
      refine AW.seq ?_
      replace h := Option.bind_eq_some_iff.1 h; obtain ⟨⟨r50, r51⟩, q52, h⟩ := h
      dsimp only at h
      have f53 := c_F9 a1 [[]] r50 r51 q52
      try dsimp only at f53
      try simp only [List.map_cons, List.map_nil, P31_eq, Redir.pv_eq, P154_eq, Cmd.pv_eq, P32_eq, Word.pv_eq, GValue.pv_eq, P22_eq, Var.pv_eq, P52_eq, GEnv.pv_eq] at f53
      refine AW.reg hS [(0, .pv (.slice (List.map PV.str a1))), (1, .pv (.slice (List.map PV.str b2))), (2, .pv (.slice (List.map PV.str c3))), (7, .pv (.slice (List.map PV.str r50))), (8, .pv (.int .i64 r51))] [] ?_ ?_
      · simp -implicitDefEqProofs only [RUNS, qindex, Nat.reduceAdd, Nat.reduceLeDiff, Nat.reduceSub, reduceIte, Nat.reduceEqDiff, Nat.reduceLT, reduceCtorEq, Nat.reduceMul, Nat.reduceBEq, Int.reduceEq, if_true, if_false, eq_self, ne_eq, env_bT, T_9, T_22, P31_eq, Redir.pv_eq, P154_eq, Cmd.pv_eq, P32_eq, Word.pv_eq, GValue.pv_eq, P22_eq, Var.pv_eq, P52_eq, GEnv.pv_eq, ownT_22, pf_9, f53]
      refine AW.seq ?_
      replace h := Option.bind_eq_some_iff.1 h; obtain ⟨⟨r54, r55⟩, q56, h⟩ := h
      dsimp only at h
      have f57 := c_F9 [[]] a1 r54 r55 q56
      try dsimp only at f57
      try simp only [List.map_cons, List.map_nil, P31_eq, Redir.pv_eq, P154_eq, Cmd.pv_eq, P32_eq, Word.pv_eq, GValue.pv_eq, P22_eq, Var.pv_eq, P52_eq, GEnv.pv_eq] at f57
      refine AW.reg hS [(0, .pv (.slice (List.map PV.str a1))), (1, .pv (.slice (List.map PV.str b2))), (2, .pv (.slice (List.map PV.str c3))), (7, .pv (.slice (List.map PV.str r50))), (8, .pv (.int .i64 r51)), (9, .pv (.slice (List.map PV.str r54))), (10, .pv (.int .i64 r55))] [] ?_ ?_
      · simp -implicitDefEqProofs only [RUNS, qindex, Nat.reduceAdd, Nat.reduceLeDiff, Nat.reduceSub, reduceIte, Nat.reduceEqDiff, Nat.reduceLT, reduceCtorEq, Nat.reduceMul, Nat.reduceBEq, Int.reduceEq, if_true, if_false, eq_self, ne_eq, env_bT, T_9, T_22, P31_eq, Redir.pv_eq, P154_eq, Cmd.pv_eq, P32_eq, Word.pv_eq, GValue.pv_eq, P22_eq, Var.pv_eq, P52_eq, GEnv.pv_eq, ownT_22, pf_9, f57]
      refine AW.seq ?_
      replace h := Option.bind_eq_some_iff.1 h; obtain ⟨r58, q59, h⟩ := h
      have f60 := fun hg => c_F13 r50 a1 r58 (guardO_t q59 hg)
      try dsimp only at f60
      replace h := Option.bind_eq_some_iff.1 h; obtain ⟨r61, q62, h⟩ := h
      have f63 := fun hg => c_F13 r54 a1 r61 (guardO_t q62 hg)
      try dsimp only at f63
      refine AW.reg hS [(0, .pv (.slice (List.map PV.str a1))), (1, .pv (.slice (List.map PV.str b2))), (2, .pv (.slice (List.map PV.str c3))), (66, .pv (.bool (((!decide (r51 = 0) || !decide (r55 = 0)) || !r58) || !r61)))] [] ?_ ?_
      · clear h
        (simp -implicitDefEqProofs only [RUNS, qindex, Nat.reduceAdd, Nat.reduceLeDiff, Nat.reduceSub, reduceIte, Nat.reduceEqDiff, Nat.reduceLT, reduceCtorEq, Nat.reduceMul, Nat.reduceBEq, Int.reduceEq, if_true, if_false, eq_self, ne_eq, env_bT, T_9, T_22, T_25, P31_eq, Redir.pv_eq, P154_eq, Cmd.pv_eq, P32_eq, Word.pv_eq, GValue.pv_eq, P22_eq, Var.pv_eq, P52_eq, GEnv.pv_eq, eqT_25, pf_13, f60, f63]); repeat' (split <;> rename_i hb <;> (try simp only [HBS, ge_iff_le, gt_iff_lt] at hb) <;> simp -implicitDefEqProofs only [RUNS, qindex, Nat.reduceAdd, Nat.reduceLeDiff, Nat.reduceSub, reduceIte, Nat.reduceEqDiff, Nat.reduceLT, reduceCtorEq, Nat.reduceMul, Nat.reduceBEq, Int.reduceEq, if_true, if_false, eq_self, ne_eq, env_bT, T_9, T_22, T_25, P31_eq, Redir.pv_eq, P154_eq, Cmd.pv_eq, P32_eq, Word.pv_eq, GValue.pv_eq, P22_eq, Var.pv_eq, P52_eq, GEnv.pv_eq, eqT_25, pf_13, f60, f63, *, decide_true, decide_false, Decidable.not_not, not_false_eq_true, not_true_eq_false])
        all_goals (first | (simp only [BOOLS]; done) | (simp [*]; done) | ((try simp only [CLOS, beq_iff_eq, bne_iff_ne, ne_eq] at *) <;> omega) | (simp_all; done) | (simp_all <;> omega))
      refine AW.cond (b := (((!decide (r51 = 0) || !decide (r55 = 0)) || !r58) || !r61)) rfl (fun hb64 => ?_) (fun hb64 => ?_)
      · replace h := bif_t hb64 h
        refine AW.seq ?_
        refine AW.reg hS [(6, .pv (.bool false))] [] ?_ ?_
        · simp -implicitDefEqProofs only [RUNS, qindex, Nat.reduceAdd, Nat.reduceLeDiff, Nat.reduceSub, reduceIte, Nat.reduceEqDiff, Nat.reduceLT, reduceCtorEq, Nat.reduceMul, Nat.reduceBEq, Int.reduceEq, if_true, if_false, eq_self, ne_eq, env_bT, P31_eq, Redir.pv_eq, P154_eq, Cmd.pv_eq, P32_eq, Word.pv_eq, GValue.pv_eq, P22_eq, Var.pv_eq, P52_eq, GEnv.pv_eq]
        refine AW.ret ?_
        cases h
        show finish _ _ _ _ _ = _
        first | rfl | (simp [finish, resOf, renArgs, toPV, selObjs, sl])
      · replace h := bif_f hb64 h
        refine AW.skip ?_
        exact ⟨(), h, (Weak.norm (m := 0) (Nat.le_of_ble_eq_true rfl) ⟨rfl, rfl, rfl, trivial⟩ rfl rfl rfl)⟩
    · replace h := bif_f hb49 h
      refine AW.skip ?_
      exact ⟨(), h, (Weak.norm (m := 0) (Nat.le_of_ble_eq_true rfl) ⟨rfl, rfl, rfl, trivial⟩ rfl rfl rfl)⟩

set_option maxHeartbeats 4000000 in
theorem g_F6 {O : Orc} (hS : Sound env O) (hpf : O.pf = pfn) (c_F7 : C_F7 O) (c_F8 : C_F8 O) (c_F18 : C_F18 O) (c_F19 : C_F19 O) (c_F13 : C_F13 O) (s1 : Str) (l2 : List Str) (r3 : Bool) (h : F6 s1 l2 = some r3) : Good env 6 [.pv (.str s1), .pv (.slice (List.map PV.str l2))] [] [.pv (.bool r3)] [] := by
  have pf_7 : O.pf 7 = true := by rw [hpf]; rfl
  have pf_8 : O.pf 8 = true := by rw [hpf]; rfl
  have pf_13 : O.pf 13 = true := by rw [hpf]; rfl
  have pf_18 : O.pf 18 = true := by rw [hpf]; rfl
  have pf_19 : O.pf 19 = true := by rw [hpf]; rfl
  refine Good.start (fn := Tryd.f6) (N := 101) fn_6 rfl rfl (by simp) [] _ rfl rfl ?_
  rw [F6] at h
  refine AW.seq ?_
  refine AW.reg hS [(0, .pv (.str s1)), (1, .pv (.slice (List.map PV.str l2)))] [] ?_ ?_
  · simp -implicitDefEqProofs only [RUNS, qindex, Nat.reduceAdd, Nat.reduceLeDiff, Nat.reduceSub, reduceIte, Nat.reduceEqDiff, Nat.reduceLT, reduceCtorEq, Nat.reduceMul, Nat.reduceBEq, Int.reduceEq, if_true, if_false, eq_self, ne_eq, env_bT, P31_eq, Redir.pv_eq, P154_eq, Cmd.pv_eq, P32_eq, Word.pv_eq, GValue.pv_eq, P22_eq, Var.pv_eq, P52_eq, GEnv.pv_eq]
  refine AW.seq ?_
  refine AW.seq ?_
  replace h := Option.bind_eq_some_iff.1 h; obtain ⟨r4, q5, h⟩ := h
  have f6 := fun hg => c_F7 l2 2000 r4 (guardO_t q5 hg)
  try dsimp only at f6
  refine AW.reg hS [(0, .pv (.str s1)), (1, .pv (.slice (List.map PV.str l2))), (19, .pv (.bool (decide (2000 < (s1.length : Int)) || !r4)))] [] ?_ ?_
  · clear h
    (simp -implicitDefEqProofs only [RUNS, qindex, Nat.reduceAdd, Nat.reduceLeDiff, Nat.reduceSub, reduceIte, Nat.reduceEqDiff, Nat.reduceLT, reduceCtorEq, Nat.reduceMul, Nat.reduceBEq, Int.reduceEq, if_true, if_false, eq_self, ne_eq, env_bT, T_3, T_9, T_22, P31_eq, Redir.pv_eq, P154_eq, Cmd.pv_eq, P32_eq, Word.pv_eq, GValue.pv_eq, P22_eq, Var.pv_eq, P52_eq, GEnv.pv_eq, eqT_3, pf_7, f6]); repeat' (split <;> rename_i hb <;> (try simp only [HBS, ge_iff_le, gt_iff_lt] at hb) <;> simp -implicitDefEqProofs only [RUNS, qindex, Nat.reduceAdd, Nat.reduceLeDiff, Nat.reduceSub, reduceIte, Nat.reduceEqDiff, Nat.reduceLT, reduceCtorEq, Nat.reduceMul, Nat.reduceBEq, Int.reduceEq, if_true, if_false, eq_self, ne_eq, env_bT, T_3, T_9, T_22, P31_eq, Redir.pv_eq, P154_eq, Cmd.pv_eq, P32_eq, Word.pv_eq, GValue.pv_eq, P22_eq, Var.pv_eq, P52_eq, GEnv.pv_eq, eqT_3, pf_7, f6, *, decide_true, decide_false, Decidable.not_not, not_false_eq_true, not_true_eq_false])
    all_goals (first | (simp only [BOOLS]; done) | (simp [*]; done) | ((try simp only [CLOS, beq_iff_eq, bne_iff_ne, ne_eq] at *) <;> omega) | (simp_all; done) | (simp_all <;> omega))
  refine AW.cond (b := (decide (2000 < (s1.length : Int)) || !r4)) rfl (fun hb7 => ?_) (fun hb7 => ?_)
  · replace h := bif_t hb7 h
    refine AW.seq ?_
    replace h := Option.bind_eq_some_iff.1 h; obtain ⟨r8, q9, h⟩ := h
    have f10 := c_F8 r8 q9
    try dsimp only at f10
    refine AW.reg hS [(4, .pv (.bool r8))] [] ?_ ?_
    · simp -implicitDefEqProofs only [RUNS, qindex, Nat.reduceAdd, Nat.reduceLeDiff, Nat.reduceSub, reduceIte, Nat.reduceEqDiff, Nat.reduceLT, reduceCtorEq, Nat.reduceMul, Nat.reduceBEq, Int.reduceEq, if_true, if_false, eq_self, ne_eq, env_bT, P31_eq, Redir.pv_eq, P154_eq, Cmd.pv_eq, P32_eq, Word.pv_eq, GValue.pv_eq, P22_eq, Var.pv_eq, P52_eq, GEnv.pv_eq, pf_8, f10]
    refine AW.ret ?_
    cases h
    show finish _ _ _ _ _ = _
    first | rfl | (simp [finish, resOf, renArgs, toPV, selObjs, sl])
  · replace h := bif_f hb7 h
    refine AW.skip ?_
    refine AW.seq ?_
    refine AW.reg hS [(0, .pv (.str s1)), (1, .pv (.slice (List.map PV.str l2))), (5, .pv (.bool true))] [] ?_ ?_
    · simp -implicitDefEqProofs only [RUNS, qindex, Nat.reduceAdd, Nat.reduceLeDiff, Nat.reduceSub, reduceIte, Nat.reduceEqDiff, Nat.reduceLT, reduceCtorEq, Nat.reduceMul, Nat.reduceBEq, Int.reduceEq, if_true, if_false, eq_self, ne_eq, env_bT, P31_eq, Redir.pv_eq, P154_eq, Cmd.pv_eq, P32_eq, Word.pv_eq, GValue.pv_eq, P22_eq, Var.pv_eq, P52_eq, GEnv.pv_eq]
    refine AW.seq ?_
    refine AW.seq ?_
    refine AW.reg hS [(0, .pv (.str s1)), (1, .pv (.slice (List.map PV.str l2))), (5, .pv (.bool true)), (22, .pv (.int .i64 (s1.length : Int))), (23, .pv (.int .i64 0))] [] ?_ ?_
    · simp -implicitDefEqProofs only [RUNS, qindex, Nat.reduceAdd, Nat.reduceLeDiff, Nat.reduceSub, reduceIte, Nat.reduceEqDiff, Nat.reduceLT, reduceCtorEq, Nat.reduceMul, Nat.reduceBEq, Int.reduceEq, if_true, if_false, eq_self, ne_eq, env_bT, T_9, P31_eq, Redir.pv_eq, P154_eq, Cmd.pv_eq, P32_eq, Word.pv_eq, GValue.pv_eq, P22_eq, Var.pv_eq, P52_eq, GEnv.pv_eq]
    refine AW.block ?_
    refine AW.weak (Weak.slots (L := [(0, .pv (.str s1)), (1, .pv (.slice (List.map PV.str l2))), (5, .pv (.bool true)), (22, .pv (.int .i64 (s1.length : Int))), (23, .pv (.int .i64 0))]) ⟨rfl, rfl, rfl, rfl, rfl, trivial⟩) ?_
    refine AW.loopI (α := Nat × Bool × Int) (fun (_, plain11, i12) => ⟨sl [(0, .pv (.str s1)), (1, .pv (.slice (List.map PV.str l2))), (5, .pv (.bool plain11)), (22, .pv (.int .i64 (s1.length : Int))), (23, .pv (.int .i64 i12))], 101, []⟩) (fun x => iter (F6_b1 s1 l2) x.1 x.2 = some r3) (fun x => x.1) (BIG, (true, 0)) h ?_
    clear h
    intro ⟨n67, plain11, i12⟩ h
    replace h := iter_some h; obtain ⟨m15, rfl, h⟩ := h
    rw [F6_b1] at h
    try dsimp only at h
    show AW _ _ _ _ ⟨sl [(0, .pv (.str s1)), (1, .pv (.slice (List.map PV.str l2))), (5, .pv (.bool plain11)), (22, .pv (.int .i64 (s1.length : Int))), (23, .pv (.int .i64 i12))], 101, []⟩
    refine AW.seq ?_
    refine AW.reg hS [(0, .pv (.str s1)), (1, .pv (.slice (List.map PV.str l2))), (5, .pv (.bool plain11)), (22, .pv (.int .i64 (s1.length : Int))), (23, .pv (.int .i64 i12)), (24, .pv (.bool (decide (i12 < (s1.length : Int)))))] [] ?_ ?_
    · simp -implicitDefEqProofs only [RUNS, qindex, Nat.reduceAdd, Nat.reduceLeDiff, Nat.reduceSub, reduceIte, Nat.reduceEqDiff, Nat.reduceLT, reduceCtorEq, Nat.reduceMul, Nat.reduceBEq, Int.reduceEq, if_true, if_false, eq_self, ne_eq, env_bT, T_3, P31_eq, Redir.pv_eq, P154_eq, Cmd.pv_eq, P32_eq, Word.pv_eq, GValue.pv_eq, P22_eq, Var.pv_eq, P52_eq, GEnv.pv_eq, eqT_3]
    refine AW.seq ?_
    refine AW.cond (b := decide (i12 < (s1.length : Int))) rfl (fun hb16 => ?_) (fun hb16 => ?_)
    · replace h := bif_t hb16 h
      refine AW.skip ?_
      refine AW.seq ?_
      refine AW.block ?_
      refine AW.seq ?_
      refine AW.reg hS [(0, .pv (.str s1)), (1, .pv (.slice (List.map PV.str l2))), (5, .pv (.bool plain11)), (6, .pv (.int .i64 i12)), (22, .pv (.int .i64 (s1.length : Int))), (23, .pv (.int .i64 i12))] [] ?_ ?_
      · simp -implicitDefEqProofs only [RUNS, qindex, Nat.reduceAdd, Nat.reduceLeDiff, Nat.reduceSub, reduceIte, Nat.reduceEqDiff, Nat.reduceLT, reduceCtorEq, Nat.reduceMul, Nat.reduceBEq, Int.reduceEq, if_true, if_false, eq_self, ne_eq, env_bT, P31_eq, Redir.pv_eq, P154_eq, Cmd.pv_eq, P32_eq, Word.pv_eq, GValue.pv_eq, P22_eq, Var.pv_eq, P52_eq, GEnv.pv_eq]
      replace h := Option.bind_eq_some_iff.1 h; obtain ⟨c17, q18, h⟩ := h
      have f19 := sidx_g (guardO_t q18)
      refine AW.reg hS [(0, .pv (.str s1)), (1, .pv (.slice (List.map PV.str l2))), (5, .pv (.bool (plain11 && !decide (c17 = 36)))), (22, .pv (.int .i64 (s1.length : Int))), (23, .pv (.int .i64 i12))] [] ?_ ?_
      · clear h
        (simp -implicitDefEqProofs only [RUNS, qindex, Nat.reduceAdd, Nat.reduceLeDiff, Nat.reduceSub, reduceIte, Nat.reduceEqDiff, Nat.reduceLT, reduceCtorEq, Nat.reduceMul, Nat.reduceBEq, Int.reduceEq, if_true, if_false, eq_self, ne_eq, env_bT, T_5, T_9, P31_eq, Redir.pv_eq, P154_eq, Cmd.pv_eq, P32_eq, Word.pv_eq, GValue.pv_eq, P22_eq, Var.pv_eq, P52_eq, GEnv.pv_eq, f19.1, f19.2.1, f19.2.2, eqT_5]); repeat' (split <;> rename_i hb <;> (try simp only [HBS, ge_iff_le, gt_iff_lt] at hb) <;> simp -implicitDefEqProofs only [RUNS, qindex, Nat.reduceAdd, Nat.reduceLeDiff, Nat.reduceSub, reduceIte, Nat.reduceEqDiff, Nat.reduceLT, reduceCtorEq, Nat.reduceMul, Nat.reduceBEq, Int.reduceEq, if_true, if_false, eq_self, ne_eq, env_bT, T_5, T_9, P31_eq, Redir.pv_eq, P154_eq, Cmd.pv_eq, P32_eq, Word.pv_eq, GValue.pv_eq, P22_eq, Var.pv_eq, P52_eq, GEnv.pv_eq, f19.1, f19.2.1, f19.2.2, eqT_5, *, decide_true, decide_false, Decidable.not_not, not_false_eq_true, not_true_eq_false])
        all_goals (first | (simp only [BOOLS]; done) | (simp [*]; done) | ((try simp only [CLOS, beq_iff_eq, bne_iff_ne, ne_eq] at *) <;> omega) | (simp_all; done) | (simp_all <;> omega))
      refine AW.reg hS [(0, .pv (.str s1)), (1, .pv (.slice (List.map PV.str l2))), (5, .pv (.bool (plain11 && !decide (c17 = 36)))), (22, .pv (.int .i64 (s1.length : Int))), (23, .pv (.int .i64 (IntKind.wrap .i64 (i12 + 1))))] [] ?_ ?_
      · simp -implicitDefEqProofs only [RUNS, qindex, Nat.reduceAdd, Nat.reduceLeDiff, Nat.reduceSub, reduceIte, Nat.reduceEqDiff, Nat.reduceLT, reduceCtorEq, Nat.reduceMul, Nat.reduceBEq, Int.reduceEq, if_true, if_false, eq_self, ne_eq, env_bT, T_3, P31_eq, Redir.pv_eq, P154_eq, Cmd.pv_eq, P32_eq, Word.pv_eq, GValue.pv_eq, P22_eq, Var.pv_eq, P52_eq, GEnv.pv_eq, eqT_3]
      exact ⟨(m15, ((plain11 && !decide (c17 = 36)), IntKind.wrap .i64 (i12 + 1))), h, (Weak.norm (m := 0) (Nat.le_of_ble_eq_true rfl) ⟨rfl, rfl, rfl, rfl, rfl, trivial⟩ rfl rfl rfl), Nat.lt_succ_self _⟩
    · replace h := bif_f hb16 h
      refine AW.exit ?_
      refine AW.seq ?_
      refine AW.seq ?_
      replace h := Option.bind_eq_some_iff.1 h; obtain ⟨⟨r20, r21⟩, q22, h⟩ := h
      dsimp only at h
      have f23 := c_F18 [] 1 s1 r20 r21 q22
      try dsimp only at f23
      try simp only [List.map_cons, List.map_nil, P31_eq, Redir.pv_eq, P154_eq, Cmd.pv_eq, P32_eq, Word.pv_eq, GValue.pv_eq, P22_eq, Var.pv_eq, P52_eq, GEnv.pv_eq] at f23
      refine AW.reg hS [(0, .pv (.str s1)), (1, .pv (.slice (List.map PV.str l2))), (5, .pv (.bool plain11)), (7, .pv (.str r20)), (8, .pv (.int .i64 r21))] [] ?_ ?_
      · simp -implicitDefEqProofs only [RUNS, qindex, Nat.reduceAdd, Nat.reduceLeDiff, Nat.reduceSub, reduceIte, Nat.reduceEqDiff, Nat.reduceLT, reduceCtorEq, Nat.reduceMul, Nat.reduceBEq, Int.reduceEq, if_true, if_false, eq_self, ne_eq, env_bT, T_3, T_9, T_30, T_54, P31_eq, Redir.pv_eq, P154_eq, Cmd.pv_eq, P32_eq, Word.pv_eq, GValue.pv_eq, P22_eq, Var.pv_eq, P52_eq, GEnv.pv_eq, pf_18, f23]
      refine AW.seq ?_
      refine AW.reg hS [(1, .pv (.slice (List.map PV.str l2))), (48, .pv (.bool (plain11 && (!decide (r20 = s1) || !decide (r21 = 0)))))] [] ?_ ?_
      · clear h
        (simp -implicitDefEqProofs only [RUNS, qindex, Nat.reduceAdd, Nat.reduceLeDiff, Nat.reduceSub, reduceIte, Nat.reduceEqDiff, Nat.reduceLT, reduceCtorEq, Nat.reduceMul, Nat.reduceBEq, Int.reduceEq, if_true, if_false, eq_self, ne_eq, env_bT, T_9, T_25, P31_eq, Redir.pv_eq, P154_eq, Cmd.pv_eq, P32_eq, Word.pv_eq, GValue.pv_eq, P22_eq, Var.pv_eq, P52_eq, GEnv.pv_eq, eqT_9, eqT_25]); repeat' (split <;> rename_i hb <;> (try simp only [HBS, ge_iff_le, gt_iff_lt] at hb) <;> simp -implicitDefEqProofs only [RUNS, qindex, Nat.reduceAdd, Nat.reduceLeDiff, Nat.reduceSub, reduceIte, Nat.reduceEqDiff, Nat.reduceLT, reduceCtorEq, Nat.reduceMul, Nat.reduceBEq, Int.reduceEq, if_true, if_false, eq_self, ne_eq, env_bT, T_9, T_25, P31_eq, Redir.pv_eq, P154_eq, Cmd.pv_eq, P32_eq, Word.pv_eq, GValue.pv_eq, P22_eq, Var.pv_eq, P52_eq, GEnv.pv_eq, eqT_9, eqT_25, *, decide_true, decide_false, Decidable.not_not, not_false_eq_true, not_true_eq_false])
        all_goals (first | (simp only [BOOLS]; done) | (simp [*]; done) | ((try simp only [CLOS, beq_iff_eq, bne_iff_ne, ne_eq] at *) <;> omega) | (simp_all; done) | (simp_all <;> omega))
      refine AW.cond (b := (plain11 && (!decide (r20 = s1) || !decide (r21 = 0)))) rfl (fun hb24 => ?_) (fun hb24 => ?_)
      · replace h := bif_t hb24 h
        refine AW.seq ?_
        refine AW.reg hS [(4, .pv (.bool false))] [] ?_ ?_
        · simp -implicitDefEqProofs only [RUNS, qindex, Nat.reduceAdd, Nat.reduceLeDiff, Nat.reduceSub, reduceIte, Nat.reduceEqDiff, Nat.reduceLT, reduceCtorEq, Nat.reduceMul, Nat.reduceBEq, Int.reduceEq, if_true, if_false, eq_self, ne_eq, env_bT, P31_eq, Redir.pv_eq, P154_eq, Cmd.pv_eq, P32_eq, Word.pv_eq, GValue.pv_eq, P22_eq, Var.pv_eq, P52_eq, GEnv.pv_eq]
        refine AW.ret ?_
        cases h
        show finish _ _ _ _ _ = _
        first | rfl | (simp [finish, resOf, renArgs, toPV, selObjs, sl])
      · replace h := bif_f hb24 h
        refine AW.skip ?_
        refine AW.seq ?_
        refine AW.reg hS [(1, .pv (.slice (List.map PV.str l2))), (9, .pv (.str []))] [] ?_ ?_
        · simp -implicitDefEqProofs only [RUNS, qindex, Nat.reduceAdd, Nat.reduceLeDiff, Nat.reduceSub, reduceIte, Nat.reduceEqDiff, Nat.reduceLT, reduceCtorEq, Nat.reduceMul, Nat.reduceBEq, Int.reduceEq, if_true, if_false, eq_self, ne_eq, env_bT, P31_eq, Redir.pv_eq, P154_eq, Cmd.pv_eq, P32_eq, Word.pv_eq, GValue.pv_eq, P22_eq, Var.pv_eq, P52_eq, GEnv.pv_eq]
        refine AW.seq ?_
        refine AW.seq ?_
        refine AW.reg hS [(1, .pv (.slice (List.map PV.str l2))), (9, .pv (.str [])), (50, .pv (.int .i64 (l2.length : Int))), (51, .pv (.int .i64 0))] [] ?_ ?_
        · simp -implicitDefEqProofs only [RUNS, qindex, Nat.reduceAdd, Nat.reduceLeDiff, Nat.reduceSub, reduceIte, Nat.reduceEqDiff, Nat.reduceLT, reduceCtorEq, Nat.reduceMul, Nat.reduceBEq, Int.reduceEq, if_true, if_false, eq_self, ne_eq, env_bT, T_9, T_22, P31_eq, Redir.pv_eq, P154_eq, Cmd.pv_eq, P32_eq, Word.pv_eq, GValue.pv_eq, P22_eq, Var.pv_eq, P52_eq, GEnv.pv_eq]
        refine AW.block ?_
        refine AW.weak (Weak.slots (L := [(1, .pv (.slice (List.map PV.str l2))), (9, .pv (.str [])), (50, .pv (.int .i64 (l2.length : Int))), (51, .pv (.int .i64 0))]) ⟨rfl, rfl, rfl, rfl, trivial⟩) ?_
        refine AW.loopI (α := Nat × Str × Int) (fun (_, t25, i26) => ⟨sl [(1, .pv (.slice (List.map PV.str l2))), (9, .pv (.str t25)), (50, .pv (.int .i64 (l2.length : Int))), (51, .pv (.int .i64 i26))], 101, []⟩) (fun x => iter (F6_b3 l2) x.1 x.2 = some r3) (fun x => x.1) (BIG, ([], 0)) h ?_
        clear h
        intro ⟨n66, t25, i26⟩ h
        replace h := iter_some h; obtain ⟨m29, rfl, h⟩ := h
        rw [F6_b3] at h
        try dsimp only at h
        show AW _ _ _ _ ⟨sl [(1, .pv (.slice (List.map PV.str l2))), (9, .pv (.str t25)), (50, .pv (.int .i64 (l2.length : Int))), (51, .pv (.int .i64 i26))], 101, []⟩
        refine AW.seq ?_
        refine AW.reg hS [(1, .pv (.slice (List.map PV.str l2))), (9, .pv (.str t25)), (50, .pv (.int .i64 (l2.length : Int))), (51, .pv (.int .i64 i26)), (52, .pv (.bool (decide (i26 < (l2.length : Int)))))] [] ?_ ?_
        · simp -implicitDefEqProofs only [RUNS, qindex, Nat.reduceAdd, Nat.reduceLeDiff, Nat.reduceSub, reduceIte, Nat.reduceEqDiff, Nat.reduceLT, reduceCtorEq, Nat.reduceMul, Nat.reduceBEq, Int.reduceEq, if_true, if_false, eq_self, ne_eq, env_bT, T_3, P31_eq, Redir.pv_eq, P154_eq, Cmd.pv_eq, P32_eq, Word.pv_eq, GValue.pv_eq, P22_eq, Var.pv_eq, P52_eq, GEnv.pv_eq, eqT_3]
        refine AW.seq ?_
        refine AW.cond (b := decide (i26 < (l2.length : Int))) rfl (fun hb30 => ?_) (fun hb30 => ?_)
        · replace h := bif_t hb30 h
          refine AW.skip ?_
          refine AW.seq ?_
          refine AW.block ?_
          refine AW.seq ?_
          refine AW.reg hS [(1, .pv (.slice (List.map PV.str l2))), (9, .pv (.str t25)), (10, .pv (.int .i64 i26)), (50, .pv (.int .i64 (l2.length : Int))), (51, .pv (.int .i64 i26))] [] ?_ ?_
          · simp -implicitDefEqProofs only [RUNS, qindex, Nat.reduceAdd, Nat.reduceLeDiff, Nat.reduceSub, reduceIte, Nat.reduceEqDiff, Nat.reduceLT, reduceCtorEq, Nat.reduceMul, Nat.reduceBEq, Int.reduceEq, if_true, if_false, eq_self, ne_eq, env_bT, P31_eq, Redir.pv_eq, P154_eq, Cmd.pv_eq, P32_eq, Word.pv_eq, GValue.pv_eq, P22_eq, Var.pv_eq, P52_eq, GEnv.pv_eq]
          refine AW.seq ?_
          refine AW.seq ?_
          replace h := Option.bind_eq_some_iff.1 h; obtain ⟨w31, q32, h⟩ := h
          have f33 := lidx_f q32
          refine AW.reg hS [(1, .pv (.slice (List.map PV.str l2))), (9, .pv (.str t25)), (10, .pv (.int .i64 i26)), (50, .pv (.int .i64 (l2.length : Int))), (51, .pv (.int .i64 i26)), (58, .pv (.bool (decide (w31 = []))))] [] ?_ ?_
          · simp -implicitDefEqProofs only [RUNS, qindex, Nat.reduceAdd, Nat.reduceLeDiff, Nat.reduceSub, reduceIte, Nat.reduceEqDiff, Nat.reduceLT, reduceCtorEq, Nat.reduceMul, Nat.reduceBEq, Int.reduceEq, if_true, if_false, eq_self, ne_eq, env_bT, T_9, T_22, P31_eq, Redir.pv_eq, P154_eq, Cmd.pv_eq, P32_eq, Word.pv_eq, GValue.pv_eq, P22_eq, Var.pv_eq, P52_eq, GEnv.pv_eq, f33.1, f33.2.1, eqT_9]
          refine AW.cond (b := decide (w31 = [])) rfl (fun hb34 => ?_) (fun hb34 => ?_)
          · replace h := bif_t hb34 h
            refine AW.seq ?_
            replace h := Option.bind_eq_some_iff.1 h; obtain ⟨r35, q36, h⟩ := h
            have f37 := c_F8 r35 q36
            try dsimp only at f37
            refine AW.reg hS [(4, .pv (.bool r35))] [] ?_ ?_
            · simp -implicitDefEqProofs only [RUNS, qindex, Nat.reduceAdd, Nat.reduceLeDiff, Nat.reduceSub, reduceIte, Nat.reduceEqDiff, Nat.reduceLT, reduceCtorEq, Nat.reduceMul, Nat.reduceBEq, Int.reduceEq, if_true, if_false, eq_self, ne_eq, env_bT, P31_eq, Redir.pv_eq, P154_eq, Cmd.pv_eq, P32_eq, Word.pv_eq, GValue.pv_eq, P22_eq, Var.pv_eq, P52_eq, GEnv.pv_eq, pf_8, f37]
            refine AW.ret ?_
            cases h
            show finish _ _ _ _ _ = _
            first | rfl | (simp [finish, resOf, renArgs, toPV, selObjs, sl])
          · replace h := bif_f hb34 h
            refine AW.skip ?_
            refine AW.seq ?_
            refine AW.seq ?_
            refine AW.reg hS [(1, .pv (.slice (List.map PV.str l2))), (9, .pv (.str t25)), (10, .pv (.int .i64 i26)), (50, .pv (.int .i64 (l2.length : Int))), (51, .pv (.int .i64 i26)), (64, .pv (.int .i64 (w31.length : Int))), (65, .pv (.int .i64 0))] [] ?_ ?_
            · simp -implicitDefEqProofs only [RUNS, qindex, Nat.reduceAdd, Nat.reduceLeDiff, Nat.reduceSub, reduceIte, Nat.reduceEqDiff, Nat.reduceLT, reduceCtorEq, Nat.reduceMul, Nat.reduceBEq, Int.reduceEq, if_true, if_false, eq_self, ne_eq, env_bT, T_9, T_22, P31_eq, Redir.pv_eq, P154_eq, Cmd.pv_eq, P32_eq, Word.pv_eq, GValue.pv_eq, P22_eq, Var.pv_eq, P52_eq, GEnv.pv_eq, f33.1, f33.2.1]
            refine AW.block ?_
            refine AW.weak (Weak.slots (L := [(1, .pv (.slice (List.map PV.str l2))), (9, .pv (.str t25)), (10, .pv (.int .i64 i26)), (50, .pv (.int .i64 (l2.length : Int))), (51, .pv (.int .i64 i26)), (64, .pv (.int .i64 (w31.length : Int))), (65, .pv (.int .i64 0))]) ⟨rfl, rfl, rfl, rfl, rfl, rfl, rfl, trivial⟩) ?_
            refine AW.loopI (α := Nat × Int) (fun (_, i38) => ⟨sl [(1, .pv (.slice (List.map PV.str l2))), (9, .pv (.str t25)), (10, .pv (.int .i64 i26)), (50, .pv (.int .i64 (l2.length : Int))), (51, .pv (.int .i64 i26)), (64, .pv (.int .i64 (w31.length : Int))), (65, .pv (.int .i64 i38))], 101, []⟩) (fun x => iter (F6_b4 w31 t25 (iter (F6_b3 l2) m29) i26) x.1 x.2 = some r3) (fun x => x.1) (BIG, 0) h ?_
            clear h
            intro ⟨n56, i38⟩ h
            replace h := iter_some h; obtain ⟨m41, rfl, h⟩ := h
            rw [F6_b4] at h
            try dsimp only at h
            show AW _ _ _ _ ⟨sl [(1, .pv (.slice (List.map PV.str l2))), (9, .pv (.str t25)), (10, .pv (.int .i64 i26)), (50, .pv (.int .i64 (l2.length : Int))), (51, .pv (.int .i64 i26)), (64, .pv (.int .i64 (w31.length : Int))), (65, .pv (.int .i64 i38))], 101, []⟩
            refine AW.seq ?_
            refine AW.reg hS [(1, .pv (.slice (List.map PV.str l2))), (9, .pv (.str t25)), (10, .pv (.int .i64 i26)), (50, .pv (.int .i64 (l2.length : Int))), (51, .pv (.int .i64 i26)), (64, .pv (.int .i64 (w31.length : Int))), (65, .pv (.int .i64 i38)), (66, .pv (.bool (decide (i38 < (w31.length : Int)))))] [] ?_ ?_
            · simp -implicitDefEqProofs only [RUNS, qindex, Nat.reduceAdd, Nat.reduceLeDiff, Nat.reduceSub, reduceIte, Nat.reduceEqDiff, Nat.reduceLT, reduceCtorEq, Nat.reduceMul, Nat.reduceBEq, Int.reduceEq, if_true, if_false, eq_self, ne_eq, env_bT, T_3, P31_eq, Redir.pv_eq, P154_eq, Cmd.pv_eq, P32_eq, Word.pv_eq, GValue.pv_eq, P22_eq, Var.pv_eq, P52_eq, GEnv.pv_eq, eqT_3]
            refine AW.seq ?_
            refine AW.cond (b := decide (i38 < (w31.length : Int))) rfl (fun hb42 => ?_) (fun hb42 => ?_)
            · replace h := bif_t hb42 h
              refine AW.skip ?_
              refine AW.seq ?_
              refine AW.block ?_
              refine AW.seq ?_
              refine AW.reg hS [(1, .pv (.slice (List.map PV.str l2))), (9, .pv (.str t25)), (10, .pv (.int .i64 i26)), (11, .pv (.int .i64 i38)), (50, .pv (.int .i64 (l2.length : Int))), (51, .pv (.int .i64 i26)), (64, .pv (.int .i64 (w31.length : Int))), (65, .pv (.int .i64 i38))] [] ?_ ?_
              · simp -implicitDefEqProofs only [RUNS, qindex, Nat.reduceAdd, Nat.reduceLeDiff, Nat.reduceSub, reduceIte, Nat.reduceEqDiff, Nat.reduceLT, reduceCtorEq, Nat.reduceMul, Nat.reduceBEq, Int.reduceEq, if_true, if_false, eq_self, ne_eq, env_bT, P31_eq, Redir.pv_eq, P154_eq, Cmd.pv_eq, P32_eq, Word.pv_eq, GValue.pv_eq, P22_eq, Var.pv_eq, P52_eq, GEnv.pv_eq]
              refine AW.seq ?_
              replace h := Option.bind_eq_some_iff.1 h; obtain ⟨c43, q44, h⟩ := h
              have f45 := sidx_f q44
              refine AW.reg hS [(1, .pv (.slice (List.map PV.str l2))), (9, .pv (.str t25)), (10, .pv (.int .i64 i26)), (50, .pv (.int .i64 (l2.length : Int))), (51, .pv (.int .i64 i26)), (64, .pv (.int .i64 (w31.length : Int))), (65, .pv (.int .i64 i38)), (83, .pv (.bool (decide (c43 = 32) || decide (c43 = 10))))] [] ?_ ?_
              · clear h
                (simp -implicitDefEqProofs only [RUNS, qindex, Nat.reduceAdd, Nat.reduceLeDiff, Nat.reduceSub, reduceIte, Nat.reduceEqDiff, Nat.reduceLT, reduceCtorEq, Nat.reduceMul, Nat.reduceBEq, Int.reduceEq, if_true, if_false, eq_self, ne_eq, env_bT, T_5, T_9, T_22, P31_eq, Redir.pv_eq, P154_eq, Cmd.pv_eq, P32_eq, Word.pv_eq, GValue.pv_eq, P22_eq, Var.pv_eq, P52_eq, GEnv.pv_eq, f33.1, f33.2.1, f45.1, f45.2.1, f45.2.2, eqT_5]); repeat' (split <;> rename_i hb <;> (try simp only [HBS, ge_iff_le, gt_iff_lt] at hb) <;> simp -implicitDefEqProofs only [RUNS, qindex, Nat.reduceAdd, Nat.reduceLeDiff, Nat.reduceSub, reduceIte, Nat.reduceEqDiff, Nat.reduceLT, reduceCtorEq, Nat.reduceMul, Nat.reduceBEq, Int.reduceEq, if_true, if_false, eq_self, ne_eq, env_bT, T_5, T_9, T_22, P31_eq, Redir.pv_eq, P154_eq, Cmd.pv_eq, P32_eq, Word.pv_eq, GValue.pv_eq, P22_eq, Var.pv_eq, P52_eq, GEnv.pv_eq, f33.1, f33.2.1, f45.1, f45.2.1, f45.2.2, eqT_5, *, decide_true, decide_false, Decidable.not_not, not_false_eq_true, not_true_eq_false])
                all_goals (first | (simp only [BOOLS]; done) | (simp [*]; done) | ((try simp only [CLOS, beq_iff_eq, bne_iff_ne, ne_eq] at *) <;> omega) | (simp_all; done) | (simp_all <;> omega))
              refine AW.cond (b := (decide (c43 = 32) || decide (c43 = 10))) rfl (fun hb46 => ?_) (fun hb46 => ?_)
              · replace h := bif_t hb46 h
                refine AW.seq ?_
                replace h := Option.bind_eq_some_iff.1 h; obtain ⟨r47, q48, h⟩ := h
                have f49 := c_F8 r47 q48
                try dsimp only at f49
                refine AW.reg hS [(4, .pv (.bool r47))] [] ?_ ?_
                · simp -implicitDefEqProofs only [RUNS, qindex, Nat.reduceAdd, Nat.reduceLeDiff, Nat.reduceSub, reduceIte, Nat.reduceEqDiff, Nat.reduceLT, reduceCtorEq, Nat.reduceMul, Nat.reduceBEq, Int.reduceEq, if_true, if_false, eq_self, ne_eq, env_bT, P31_eq, Redir.pv_eq, P154_eq, Cmd.pv_eq, P32_eq, Word.pv_eq, GValue.pv_eq, P22_eq, Var.pv_eq, P52_eq, GEnv.pv_eq, pf_8, f49]
                refine AW.ret ?_
                cases h
                show finish _ _ _ _ _ = _
                first | rfl | (simp [finish, resOf, renArgs, toPV, selObjs, sl])
              · replace h := bif_f hb46 h
                refine AW.skip ?_
                refine AW.reg hS [(1, .pv (.slice (List.map PV.str l2))), (9, .pv (.str t25)), (10, .pv (.int .i64 i26)), (50, .pv (.int .i64 (l2.length : Int))), (51, .pv (.int .i64 i26)), (64, .pv (.int .i64 (w31.length : Int))), (65, .pv (.int .i64 (IntKind.wrap .i64 (i38 + 1))))] [] ?_ ?_
                · simp -implicitDefEqProofs only [RUNS, qindex, Nat.reduceAdd, Nat.reduceLeDiff, Nat.reduceSub, reduceIte, Nat.reduceEqDiff, Nat.reduceLT, reduceCtorEq, Nat.reduceMul, Nat.reduceBEq, Int.reduceEq, if_true, if_false, eq_self, ne_eq, env_bT, T_3, P31_eq, Redir.pv_eq, P154_eq, Cmd.pv_eq, P32_eq, Word.pv_eq, GValue.pv_eq, P22_eq, Var.pv_eq, P52_eq, GEnv.pv_eq, eqT_3]
                exact ⟨(m41, IntKind.wrap .i64 (i38 + 1)), h, (Weak.norm (m := 0) (Nat.le_of_ble_eq_true rfl) ⟨rfl, rfl, rfl, rfl, rfl, rfl, rfl, trivial⟩ rfl rfl rfl), Nat.lt_succ_self _⟩
            · replace h := bif_f hb42 h
              refine AW.exit ?_
              replace h := Option.bind_eq_some_iff.1 h; obtain ⟨s50, q51, h⟩ := h
              have f52 := catO_f q51
              try simp only [List.length_cons, List.length_nil, Nat.zero_add, Nat.reduceAdd, Nat.reduceLeDiff, Nat.add_zero, Nat.reduceMul] at f52
              replace h := Option.bind_eq_some_iff.1 h; obtain ⟨s53, q54, h⟩ := h
              have f55 := catO_f q54
              try simp only [List.length_cons, List.length_nil, Nat.zero_add, Nat.reduceAdd, Nat.reduceLeDiff, Nat.add_zero, Nat.reduceMul] at f55
              refine AW.reg hS [(1, .pv (.slice (List.map PV.str l2))), (9, .pv (.str s53)), (50, .pv (.int .i64 (l2.length : Int))), (51, .pv (.int .i64 i26))] [] ?_ ?_
              · simp -implicitDefEqProofs only [RUNS, qindex, Nat.reduceAdd, Nat.reduceLeDiff, Nat.reduceSub, reduceIte, Nat.reduceEqDiff, Nat.reduceLT, reduceCtorEq, Nat.reduceMul, Nat.reduceBEq, Int.reduceEq, if_true, if_false, eq_self, ne_eq, env_bT, T_9, T_22, P31_eq, Redir.pv_eq, P154_eq, Cmd.pv_eq, P32_eq, Word.pv_eq, GValue.pv_eq, P22_eq, Var.pv_eq, P52_eq, GEnv.pv_eq, f33.1, f33.2.1, eqT_9, f52.1, f52.2, f55.1, f55.2]
              refine AW.reg hS [(1, .pv (.slice (List.map PV.str l2))), (9, .pv (.str s53)), (50, .pv (.int .i64 (l2.length : Int))), (51, .pv (.int .i64 (IntKind.wrap .i64 (i26 + 1))))] [] ?_ ?_
              · simp -implicitDefEqProofs only [RUNS, qindex, Nat.reduceAdd, Nat.reduceLeDiff, Nat.reduceSub, reduceIte, Nat.reduceEqDiff, Nat.reduceLT, reduceCtorEq, Nat.reduceMul, Nat.reduceBEq, Int.reduceEq, if_true, if_false, eq_self, ne_eq, env_bT, T_3, P31_eq, Redir.pv_eq, P154_eq, Cmd.pv_eq, P32_eq, Word.pv_eq, GValue.pv_eq, P22_eq, Var.pv_eq, P52_eq, GEnv.pv_eq, eqT_3]
              exact ⟨(m29, (s53, IntKind.wrap .i64 (i26 + 1))), h, (Weak.norm (m := 0) (Nat.le_of_ble_eq_true rfl) ⟨rfl, rfl, rfl, rfl, trivial⟩ rfl rfl rfl), Nat.lt_succ_self _⟩
        · replace h := bif_f hb30 h
          refine AW.exit ?_
          refine AW.seq ?_
          replace h := Option.bind_eq_some_iff.1 h; obtain ⟨r57, q58, h⟩ := h
          have f59 := c_F19 t25 [10, 32] r57 q58
          try dsimp only at f59
          try simp only [List.map_cons, List.map_nil, P31_eq, Redir.pv_eq, P154_eq, Cmd.pv_eq, P32_eq, Word.pv_eq, GValue.pv_eq, P22_eq, Var.pv_eq, P52_eq, GEnv.pv_eq] at f59
          replace h := Option.bind_eq_some_iff.1 h; obtain ⟨r60, q61, h⟩ := h
          have f62 := c_F13 r57 l2 r60 q61
          try dsimp only at f62
          replace h := Option.bind_eq_some_iff.1 h; obtain ⟨r63, q64, h⟩ := h
          have f65 := fun hg => c_F8 r63 (guardO_t q64 hg)
          try dsimp only at f65
          refine AW.reg hS [(4, .pv (.bool (r60 && r63)))] [] ?_ ?_
          · clear h
            (simp -implicitDefEqProofs only [RUNS, qindex, Nat.reduceAdd, Nat.reduceLeDiff, Nat.reduceSub, reduceIte, Nat.reduceEqDiff, Nat.reduceLT, reduceCtorEq, Nat.reduceMul, Nat.reduceBEq, Int.reduceEq, if_true, if_false, eq_self, ne_eq, env_bT, T_9, T_22, P31_eq, Redir.pv_eq, P154_eq, Cmd.pv_eq, P32_eq, Word.pv_eq, GValue.pv_eq, P22_eq, Var.pv_eq, P52_eq, GEnv.pv_eq, pf_19, f59, pf_13, f62, pf_8, f65]); repeat' (split <;> rename_i hb <;> (try simp only [HBS, ge_iff_le, gt_iff_lt] at hb) <;> simp -implicitDefEqProofs only [RUNS, qindex, Nat.reduceAdd, Nat.reduceLeDiff, Nat.reduceSub, reduceIte, Nat.reduceEqDiff, Nat.reduceLT, reduceCtorEq, Nat.reduceMul, Nat.reduceBEq, Int.reduceEq, if_true, if_false, eq_self, ne_eq, env_bT, T_9, T_22, P31_eq, Redir.pv_eq, P154_eq, Cmd.pv_eq, P32_eq, Word.pv_eq, GValue.pv_eq, P22_eq, Var.pv_eq, P52_eq, GEnv.pv_eq, pf_19, f59, pf_13, f62, pf_8, f65, *, decide_true, decide_false, Decidable.not_not, not_false_eq_true, not_true_eq_false])
            all_goals (first | (simp only [BOOLS]; done) | (simp [*]; done) | ((try simp only [CLOS, beq_iff_eq, bne_iff_ne, ne_eq] at *) <;> omega) | (simp_all; done) | (simp_all <;> omega))
          refine AW.ret ?_
          cases h
          show finish _ _ _ _ _ = _
          first | rfl | (simp [finish, resOf, renArgs, toPV, selObjs, sl])

end Go.Abs.U50
