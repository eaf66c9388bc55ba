/- The layer 45 laws: the functions walked. -/
import Derived.Test.YtddhgkeiiobfeaaDoorD1
set_option linter.unusedVariables false
set_option linter.unusedSimpArgs false
namespace Go.Abs.U45
open Go.RowKit Go.Proofs

set_option maxHeartbeats 4000000 in
theorem g_F8 {O : Orc} (hS : Sound env O) (hpf : O.pf = pfn) (op1 : NsOp) (r2 : Bool) (h : F8 op1 = some r2) : Good env 8 [.pv (.agg [.int .i64 op1.kind_, .int .i64 op1.flag_, .str op1.new_, .str op1.old_])] [] [.pv (.bool r2)] [] := by
  refine Good.start (fn := Tryd.f8) (N := 13) rfl rfl rfl (by simp) [] _ rfl rfl ?_
  rw [F8] at h
  refine AW.seq ?_
  refine AW.reg hS [(1, .ref 0 0)] [.var [.pv (.int .i64 op1.kind_), .pv (.int .i64 op1.flag_), .pv (.str op1.new_), .pv (.str op1.old_)]] ?_ ?_
  · simp -implicitDefEqProofs only [RUNS, qindex, Nat.reduceAdd, Nat.reduceLeDiff, Nat.reduceSub, reduceIte, Nat.reduceEqDiff, Nat.reduceLT, reduceCtorEq, Nat.reduceMul, if_true, if_false, eq_self, ne_eq, env_bT, T_23, NsOp.pv_eq, Word.pv_eq, Chan.pv_eq, Target.pv_eq, P38_eq, Mount.pv_eq, P31_eq, Ns.pv_eq]
  refine AW.seq ?_
  refine AW.reg hS [(2, .pv (.bool (decide ((op1.new_.length : Int) ≤ 1100) && decide ((op1.old_.length : Int) ≤ 1100))))] [.var [.pv (.int .i64 op1.kind_), .pv (.int .i64 op1.flag_), .pv (.str op1.new_), .pv (.str op1.old_)]] ?_ ?_
  · clear h
    (simp -implicitDefEqProofs only [RUNS, qindex, Nat.reduceAdd, Nat.reduceLeDiff, Nat.reduceSub, reduceIte, Nat.reduceEqDiff, Nat.reduceLT, reduceCtorEq, Nat.reduceMul, if_true, if_false, eq_self, ne_eq, env_bT, T_3, T_9, T_23, NsOp.pv_eq, Word.pv_eq, Chan.pv_eq, Target.pv_eq, P38_eq, Mount.pv_eq, P31_eq, Ns.pv_eq, eqT_3]); repeat' (split <;> rename_i hb <;> (try simp only [HBS, ge_iff_le, gt_iff_lt] at hb) <;> simp -implicitDefEqProofs only [RUNS, qindex, Nat.reduceAdd, Nat.reduceLeDiff, Nat.reduceSub, reduceIte, Nat.reduceEqDiff, Nat.reduceLT, reduceCtorEq, Nat.reduceMul, if_true, if_false, eq_self, ne_eq, env_bT, T_3, T_9, T_23, NsOp.pv_eq, Word.pv_eq, Chan.pv_eq, Target.pv_eq, P38_eq, Mount.pv_eq, P31_eq, Ns.pv_eq, eqT_3, *, decide_true, decide_false, Decidable.not_not, not_false_eq_true, not_true_eq_false])
    all_goals (first | (simp only [BOOLS]; done) | (simp [*]; done) | ((try simp only [CLOS, beq_iff_eq, bne_iff_ne, ne_eq] at *) <;> omega) | (simp_all; done) | (simp_all <;> omega))
  refine AW.ret ?_
  cases h
  show finish _ _ _ _ _ = _
  first | rfl | (simp [finish, resOf, renArgs, toPV, selObjs, sl])

set_option maxHeartbeats 4000000 in
theorem g_F33 {O : Orc} (hS : Sound env O) (hpf : O.pf = pfn) (n1 : Int) (r2 : Bool) (h : F33 n1 = some r2) : Good env 33 [.pv (.int .i64 n1)] [] [.pv (.bool r2)] [] := by
  refine Good.start (fn := Tryd.f33) (N := 10) rfl rfl rfl (by simp) [] _ rfl rfl ?_
  rw [F33] at h
  refine AW.seq ?_
  refine AW.reg hS [(0, .pv (.int .i64 n1))] [] ?_ ?_
  · simp -implicitDefEqProofs only [RUNS, qindex, Nat.reduceAdd, Nat.reduceLeDiff, Nat.reduceSub, reduceIte, Nat.reduceEqDiff, Nat.reduceLT, reduceCtorEq, Nat.reduceMul, if_true, if_false, eq_self, ne_eq, env_bT, NsOp.pv_eq, Word.pv_eq, Chan.pv_eq, Target.pv_eq, P38_eq, Mount.pv_eq, P31_eq, Ns.pv_eq]
  refine AW.seq ?_
  refine AW.reg hS [(2, .pv (.bool (decide (0 ≤ n1) && decide (bits .andNot .i64 n1 4 ≤ 2))))] [] ?_ ?_
  · clear h
    (simp -implicitDefEqProofs only [RUNS, qindex, Nat.reduceAdd, Nat.reduceLeDiff, Nat.reduceSub, reduceIte, Nat.reduceEqDiff, Nat.reduceLT, reduceCtorEq, Nat.reduceMul, if_true, if_false, eq_self, ne_eq, env_bT, T_3, NsOp.pv_eq, Word.pv_eq, Chan.pv_eq, Target.pv_eq, P38_eq, Mount.pv_eq, P31_eq, Ns.pv_eq, eqT_3]); repeat' (split <;> rename_i hb <;> (try simp only [HBS, ge_iff_le, gt_iff_lt] at hb) <;> simp -implicitDefEqProofs only [RUNS, qindex, Nat.reduceAdd, Nat.reduceLeDiff, Nat.reduceSub, reduceIte, Nat.reduceEqDiff, Nat.reduceLT, reduceCtorEq, Nat.reduceMul, if_true, if_false, eq_self, ne_eq, env_bT, T_3, NsOp.pv_eq, Word.pv_eq, Chan.pv_eq, Target.pv_eq, P38_eq, Mount.pv_eq, P31_eq, Ns.pv_eq, eqT_3, *, decide_true, decide_false, Decidable.not_not, not_false_eq_true, not_true_eq_false])
    all_goals (first | (simp only [BOOLS]; done) | (simp [*]; done) | ((try simp only [CLOS, beq_iff_eq, bne_iff_ne, ne_eq] at *) <;> omega) | (simp_all; done) | (simp_all <;> omega))
  refine AW.ret ?_
  cases h
  show finish _ _ _ _ _ = _
  first | rfl | (simp [finish, resOf, renArgs, toPV, selObjs, sl])

set_option maxHeartbeats 4000000 in
theorem g_F34 {O : Orc} (hS : Sound env O) (hpf : O.pf = pfn) (c_L_IndexByte : C_L_IndexByte O) (s1 : Str) (r2 : Bool) (h : F34 s1 = some r2) : Good env 34 [.pv (.str s1)] [] [.pv (.bool r2)] [] := by
  have pf_31 : O.pf 31 = true := by rw [hpf]; rfl
  refine Good.start (fn := Tryd.f34) (N := 20) rfl rfl rfl (by simp) [] _ rfl rfl ?_
  rw [F34] at h
  refine AW.seq ?_
  refine AW.reg hS [(0, .pv (.str s1))] [] ?_ ?_
  · simp -implicitDefEqProofs only [RUNS, qindex, Nat.reduceAdd, Nat.reduceLeDiff, Nat.reduceSub, reduceIte, Nat.reduceEqDiff, Nat.reduceLT, reduceCtorEq, Nat.reduceMul, if_true, if_false, eq_self, ne_eq, env_bT, NsOp.pv_eq, Word.pv_eq, Chan.pv_eq, Target.pv_eq, P38_eq, Mount.pv_eq, P31_eq, Ns.pv_eq]
  refine AW.seq ?_
  replace h := Option.bind_eq_some_iff.1 h; obtain ⟨n3, q4, h⟩ := h
  have f5 := fun hg => c_L_IndexByte s1 0 n3 (guardO_t q4 hg)
  try dsimp only at f5
  replace h := Option.bind_eq_some_iff.1 h; obtain ⟨n6, q7, h⟩ := h
  have f8 := fun hg => c_L_IndexByte s1 10 n6 (guardO_t q7 hg)
  try dsimp only at f8
  refine AW.reg hS [(2, .pv (.bool (((!decide (s1 = []) && decide ((s1.length : Int) ≤ 1024)) && decide (n3 < 0)) && decide (n6 < 0))))] [] ?_ ?_
  · clear h
    (simp -implicitDefEqProofs only [RUNS, qindex, Nat.reduceAdd, Nat.reduceLeDiff, Nat.reduceSub, reduceIte, Nat.reduceEqDiff, Nat.reduceLT, reduceCtorEq, Nat.reduceMul, if_true, if_false, eq_self, ne_eq, env_bT, T_3, T_5, T_9, NsOp.pv_eq, Word.pv_eq, Chan.pv_eq, Target.pv_eq, P38_eq, Mount.pv_eq, P31_eq, Ns.pv_eq, eqT_9, eqT_3, pf_31, f5, f8]); repeat' (split <;> rename_i hb <;> (try simp only [HBS, ge_iff_le, gt_iff_lt] at hb) <;> simp -implicitDefEqProofs only [RUNS, qindex, Nat.reduceAdd, Nat.reduceLeDiff, Nat.reduceSub, reduceIte, Nat.reduceEqDiff, Nat.reduceLT, reduceCtorEq, Nat.reduceMul, if_true, if_false, eq_self, ne_eq, env_bT, T_3, T_5, T_9, NsOp.pv_eq, Word.pv_eq, Chan.pv_eq, Target.pv_eq, P38_eq, Mount.pv_eq, P31_eq, Ns.pv_eq, eqT_9, eqT_3, pf_31, f5, f8, *, decide_true, decide_false, Decidable.not_not, not_false_eq_true, not_true_eq_false])
    all_goals (first | (simp only [BOOLS]; done) | (simp [*]; done) | ((try simp only [CLOS, beq_iff_eq, bne_iff_ne, ne_eq] at *) <;> omega) | (simp_all; done) | (simp_all <;> omega))
  refine AW.ret ?_
  cases h
  show finish _ _ _ _ _ = _
  first | rfl | (simp [finish, resOf, renArgs, toPV, selObjs, sl])

set_option maxHeartbeats 4000000 in
theorem g_F22 {O : Orc} (hS : Sound env O) (hpf : O.pf = pfn) (c_F33 : C_F33 O) (c_F34 : C_F34 O) (op1 : NsOp) (r2 : Bool) (h : F22 op1 = some r2) : Good env 22 [.pv (.agg [.int .i64 op1.kind_, .int .i64 op1.flag_, .str op1.new_, .str op1.old_])] [] [.pv (.bool r2)] [] := by
  have pf_33 : O.pf 33 = true := by rw [hpf]; rfl
  have pf_34 : O.pf 34 = true := by rw [hpf]; rfl
  refine Good.start (fn := Tryd.f22) (N := 71) rfl rfl rfl (by simp) [] _ rfl rfl ?_
  rw [F22] at h
  refine AW.seq ?_
  refine AW.reg hS [(1, .ref 0 0)] [.var [.pv (.int .i64 op1.kind_), .pv (.int .i64 op1.flag_), .pv (.str op1.new_), .pv (.str op1.old_)]] ?_ ?_
  · simp -implicitDefEqProofs only [RUNS, qindex, Nat.reduceAdd, Nat.reduceLeDiff, Nat.reduceSub, reduceIte, Nat.reduceEqDiff, Nat.reduceLT, reduceCtorEq, Nat.reduceMul, if_true, if_false, eq_self, ne_eq, env_bT, T_23, NsOp.pv_eq, Word.pv_eq, Chan.pv_eq, Target.pv_eq, P38_eq, Mount.pv_eq, P31_eq, Ns.pv_eq]
  refine AW.seq ?_
  refine AW.seq ?_
  refine AW.reg hS [(1, .ref 0 0), (4, .pv (.int .i64 op1.kind_))] [.var [.pv (.int .i64 op1.kind_), .pv (.int .i64 op1.flag_), .pv (.str op1.new_), .pv (.str op1.old_)]] ?_ ?_
  · simp -implicitDefEqProofs only [RUNS, qindex, Nat.reduceAdd, Nat.reduceLeDiff, Nat.reduceSub, reduceIte, Nat.reduceEqDiff, Nat.reduceLT, reduceCtorEq, Nat.reduceMul, if_true, if_false, eq_self, ne_eq, env_bT, T_3, T_23, NsOp.pv_eq, Word.pv_eq, Chan.pv_eq, Target.pv_eq, P38_eq, Mount.pv_eq, P31_eq, Ns.pv_eq]
  refine AW.block ?_
  refine AW.seqM ⟨sl [(1, .ref 0 0), (4, .pv (.int .i64 op1.kind_)), (5, .pv (.bool (bif decide (op1.kind_ = 1) then decide (op1.kind_ = 1) else decide (op1.kind_ = 2))))], 71, [.var [.pv (.int .i64 op1.kind_), .pv (.int .i64 op1.flag_), .pv (.str op1.new_), .pv (.str op1.old_)]]⟩ ?_ ?_
  · refine AW.seq ?_
    refine AW.reg hS [(1, .ref 0 0), (4, .pv (.int .i64 op1.kind_)), (5, .pv (.bool (decide (op1.kind_ = 1))))] [.var [.pv (.int .i64 op1.kind_), .pv (.int .i64 op1.flag_), .pv (.str op1.new_), .pv (.str op1.old_)]] ?_ ?_
    · simp -implicitDefEqProofs only [RUNS, qindex, Nat.reduceAdd, Nat.reduceLeDiff, Nat.reduceSub, reduceIte, Nat.reduceEqDiff, Nat.reduceLT, reduceCtorEq, Nat.reduceMul, if_true, if_false, eq_self, ne_eq, env_bT, T_3, NsOp.pv_eq, Word.pv_eq, Chan.pv_eq, Target.pv_eq, P38_eq, Mount.pv_eq, P31_eq, Ns.pv_eq, eqT_3]
    refine AW.cond (b := decide (op1.kind_ = 1)) rfl (fun hb3 => ?_) (fun hb3 => ?_)
    · refine AW.skip ?_
      exact Weak.of_eq (Weak.slots (L := [(1, .ref 0 0), (4, .pv (.int .i64 op1.kind_)), (5, .pv (.bool (decide (op1.kind_ = 1))))]) ⟨rfl, rfl, rfl, trivial⟩) (by simp only [hb3, cond_true, cond_false, Bool.true_or, Bool.false_or, Bool.true_and, Bool.false_and, Bool.or_true, Bool.or_false, Bool.and_true, Bool.and_false, Bool.not_true, Bool.not_false])
    · refine AW.reg hS [(1, .ref 0 0), (4, .pv (.int .i64 op1.kind_)), (5, .pv (.bool (decide (op1.kind_ = 2))))] [.var [.pv (.int .i64 op1.kind_), .pv (.int .i64 op1.flag_), .pv (.str op1.new_), .pv (.str op1.old_)]] ?_ ?_
      · simp -implicitDefEqProofs only [RUNS, qindex, Nat.reduceAdd, Nat.reduceLeDiff, Nat.reduceSub, reduceIte, Nat.reduceEqDiff, Nat.reduceLT, reduceCtorEq, Nat.reduceMul, if_true, if_false, eq_self, ne_eq, env_bT, T_3, NsOp.pv_eq, Word.pv_eq, Chan.pv_eq, Target.pv_eq, P38_eq, Mount.pv_eq, P31_eq, Ns.pv_eq, eqT_3]
      exact Weak.of_eq (Weak.slots (L := [(1, .ref 0 0), (4, .pv (.int .i64 op1.kind_)), (5, .pv (.bool (decide (op1.kind_ = 2))))]) ⟨rfl, rfl, rfl, trivial⟩) (by simp only [hb3, cond_true, cond_false, Bool.true_or, Bool.false_or, Bool.true_and, Bool.false_and, Bool.or_true, Bool.or_false, Bool.and_true, Bool.and_false, Bool.not_true, Bool.not_false])
  refine AW.cond (b := (bif decide (op1.kind_ = 1) then decide (op1.kind_ = 1) else decide (op1.kind_ = 2))) rfl (fun hb4 => ?_) (fun hb4 => ?_)
  · replace h := bif_t hb4 h
    refine AW.seq ?_
    replace h := Option.bind_eq_some_iff.1 h; obtain ⟨r5, q6, h⟩ := h
    have f7 := c_F33 op1.flag_ r5 q6
    try dsimp only at f7
    replace h := Option.bind_eq_some_iff.1 h; obtain ⟨r8, q9, h⟩ := h
    have f10 := fun hg => c_F34 op1.new_ r8 (guardO_t q9 hg)
    try dsimp only at f10
    replace h := Option.bind_eq_some_iff.1 h; obtain ⟨r11, q12, h⟩ := h
    have f13 := fun hg => c_F34 op1.old_ r11 (guardO_t q12 hg)
    try dsimp only at f13
    refine AW.reg hS [(2, .pv (.bool ((r5 && r8) && r11)))] [.var [.pv (.int .i64 op1.kind_), .pv (.int .i64 op1.flag_), .pv (.str op1.new_), .pv (.str op1.old_)]] ?_ ?_
    · clear h
      (simp -implicitDefEqProofs only [RUNS, qindex, Nat.reduceAdd, Nat.reduceLeDiff, Nat.reduceSub, reduceIte, Nat.reduceEqDiff, Nat.reduceLT, reduceCtorEq, Nat.reduceMul, if_true, if_false, eq_self, ne_eq, env_bT, T_3, T_9, T_23, NsOp.pv_eq, Word.pv_eq, Chan.pv_eq, Target.pv_eq, P38_eq, Mount.pv_eq, P31_eq, Ns.pv_eq, pf_33, f7, pf_34, f10, f13]); repeat' (split <;> rename_i hb <;> (try simp only [HBS, ge_iff_le, gt_iff_lt] at hb) <;> simp -implicitDefEqProofs only [RUNS, qindex, Nat.reduceAdd, Nat.reduceLeDiff, Nat.reduceSub, reduceIte, Nat.reduceEqDiff, Nat.reduceLT, reduceCtorEq, Nat.reduceMul, if_true, if_false, eq_self, ne_eq, env_bT, T_3, T_9, T_23, NsOp.pv_eq, Word.pv_eq, Chan.pv_eq, Target.pv_eq, P38_eq, Mount.pv_eq, P31_eq, Ns.pv_eq, pf_33, f7, pf_34, f10, f13, *, decide_true, decide_false, Decidable.not_not, not_false_eq_true, not_true_eq_false])
      all_goals (first | (simp only [BOOLS]; done) | (simp [*]; done) | ((try simp only [CLOS, beq_iff_eq, bne_iff_ne, ne_eq] at *) <;> omega) | (simp_all; done) | (simp_all <;> omega))
    refine AW.ret ?_
    cases h
    show finish _ _ _ _ _ = _
    first | rfl | (simp [finish, resOf, renArgs, toPV, selObjs, sl])
  · replace h := bif_f hb4 h
    refine AW.seq ?_
    refine AW.reg hS [(1, .ref 0 0), (4, .pv (.int .i64 op1.kind_)), (21, .pv (.bool (decide (op1.kind_ = 3))))] [.var [.pv (.int .i64 op1.kind_), .pv (.int .i64 op1.flag_), .pv (.str op1.new_), .pv (.str op1.old_)]] ?_ ?_
    · simp -implicitDefEqProofs only [RUNS, qindex, Nat.reduceAdd, Nat.reduceLeDiff, Nat.reduceSub, reduceIte, Nat.reduceEqDiff, Nat.reduceLT, reduceCtorEq, Nat.reduceMul, if_true, if_false, eq_self, ne_eq, env_bT, T_3, NsOp.pv_eq, Word.pv_eq, Chan.pv_eq, Target.pv_eq, P38_eq, Mount.pv_eq, P31_eq, Ns.pv_eq, eqT_3]
    refine AW.cond (b := decide (op1.kind_ = 3)) rfl (fun hb14 => ?_) (fun hb14 => ?_)
    · replace h := bif_t hb14 h
      refine AW.seq ?_
      replace h := Option.bind_eq_some_iff.1 h; obtain ⟨r15, q16, h⟩ := h
      have f17 := fun hg => c_F34 op1.new_ r15 (guardO_t q16 hg)
      try dsimp only at f17
      replace h := Option.bind_eq_some_iff.1 h; obtain ⟨r18, q19, h⟩ := h
      have f20 := fun hg => c_F34 op1.old_ r18 (guardO_t q19 hg)
      try dsimp only at f20
      refine AW.reg hS [(2, .pv (.bool ((decide (op1.flag_ = 0) && (decide (op1.new_ = []) || r15)) && r18)))] [.var [.pv (.int .i64 op1.kind_), .pv (.int .i64 op1.flag_), .pv (.str op1.new_), .pv (.str op1.old_)]] ?_ ?_
      · clear h
        (simp -implicitDefEqProofs only [RUNS, qindex, Nat.reduceAdd, Nat.reduceLeDiff, Nat.reduceSub, reduceIte, Nat.reduceEqDiff, Nat.reduceLT, reduceCtorEq, Nat.reduceMul, if_true, if_false, eq_self, ne_eq, env_bT, T_3, T_9, T_23, NsOp.pv_eq, Word.pv_eq, Chan.pv_eq, Target.pv_eq, P38_eq, Mount.pv_eq, P31_eq, Ns.pv_eq, eqT_3, eqT_9, pf_34, f17, f20]); repeat' (split <;> rename_i hb <;> (try simp only [HBS, ge_iff_le, gt_iff_lt] at hb) <;> simp -implicitDefEqProofs only [RUNS, qindex, Nat.reduceAdd, Nat.reduceLeDiff, Nat.reduceSub, reduceIte, Nat.reduceEqDiff, Nat.reduceLT, reduceCtorEq, Nat.reduceMul, if_true, if_false, eq_self, ne_eq, env_bT, T_3, T_9, T_23, NsOp.pv_eq, Word.pv_eq, Chan.pv_eq, Target.pv_eq, P38_eq, Mount.pv_eq, P31_eq, Ns.pv_eq, eqT_3, eqT_9, pf_34, f17, f20, *, decide_true, decide_false, Decidable.not_not, not_false_eq_true, not_true_eq_false])
        all_goals (first | (simp only [BOOLS]; done) | (simp [*]; done) | ((try simp only [CLOS, beq_iff_eq, bne_iff_ne, ne_eq] at *) <;> omega) | (simp_all; done) | (simp_all <;> omega))
      refine AW.ret ?_
      cases h
      show finish _ _ _ _ _ = _
      first | rfl | (simp [finish, resOf, renArgs, toPV, selObjs, sl])
    · replace h := bif_f hb14 h
      refine AW.seq ?_
      refine AW.reg hS [(1, .ref 0 0), (4, .pv (.int .i64 op1.kind_)), (41, .pv (.bool (decide (op1.kind_ = 4))))] [.var [.pv (.int .i64 op1.kind_), .pv (.int .i64 op1.flag_), .pv (.str op1.new_), .pv (.str op1.old_)]] ?_ ?_
      · simp -implicitDefEqProofs only [RUNS, qindex, Nat.reduceAdd, Nat.reduceLeDiff, Nat.reduceSub, reduceIte, Nat.reduceEqDiff, Nat.reduceLT, reduceCtorEq, Nat.reduceMul, if_true, if_false, eq_self, ne_eq, env_bT, T_3, NsOp.pv_eq, Word.pv_eq, Chan.pv_eq, Target.pv_eq, P38_eq, Mount.pv_eq, P31_eq, Ns.pv_eq, eqT_3]
      refine AW.cond (b := decide (op1.kind_ = 4)) rfl (fun hb21 => ?_) (fun hb21 => ?_)
      · replace h := bif_t hb21 h
        refine AW.seq ?_
        refine AW.reg hS [(2, .pv (.bool ((decide (op1.flag_ = 0) && decide (op1.new_ = [])) && decide (op1.old_ = []))))] [.var [.pv (.int .i64 op1.kind_), .pv (.int .i64 op1.flag_), .pv (.str op1.new_), .pv (.str op1.old_)]] ?_ ?_
        · clear h
          (simp -implicitDefEqProofs only [RUNS, qindex, Nat.reduceAdd, Nat.reduceLeDiff, Nat.reduceSub, reduceIte, Nat.reduceEqDiff, Nat.reduceLT, reduceCtorEq, Nat.reduceMul, if_true, if_false, eq_self, ne_eq, env_bT, T_3, T_9, T_23, NsOp.pv_eq, Word.pv_eq, Chan.pv_eq, Target.pv_eq, P38_eq, Mount.pv_eq, P31_eq, Ns.pv_eq, eqT_3, eqT_9]); repeat' (split <;> rename_i hb <;> (try simp only [HBS, ge_iff_le, gt_iff_lt] at hb) <;> simp -implicitDefEqProofs only [RUNS, qindex, Nat.reduceAdd, Nat.reduceLeDiff, Nat.reduceSub, reduceIte, Nat.reduceEqDiff, Nat.reduceLT, reduceCtorEq, Nat.reduceMul, if_true, if_false, eq_self, ne_eq, env_bT, T_3, T_9, T_23, NsOp.pv_eq, Word.pv_eq, Chan.pv_eq, Target.pv_eq, P38_eq, Mount.pv_eq, P31_eq, Ns.pv_eq, eqT_3, eqT_9, *, decide_true, decide_false, Decidable.not_not, not_false_eq_true, not_true_eq_false])
          all_goals (first | (simp only [BOOLS]; done) | (simp [*]; done) | ((try simp only [CLOS, beq_iff_eq, bne_iff_ne, ne_eq] at *) <;> omega) | (simp_all; done) | (simp_all <;> omega))
        refine AW.ret ?_
        cases h
        show finish _ _ _ _ _ = _
        first | rfl | (simp [finish, resOf, renArgs, toPV, selObjs, sl])
      · replace h := bif_f hb21 h
        refine AW.seq ?_
        refine AW.reg hS [(1, .ref 0 0), (56, .pv (.bool (decide (op1.kind_ = 5))))] [.var [.pv (.int .i64 op1.kind_), .pv (.int .i64 op1.flag_), .pv (.str op1.new_), .pv (.str op1.old_)]] ?_ ?_
        · simp -implicitDefEqProofs only [RUNS, qindex, Nat.reduceAdd, Nat.reduceLeDiff, Nat.reduceSub, reduceIte, Nat.reduceEqDiff, Nat.reduceLT, reduceCtorEq, Nat.reduceMul, if_true, if_false, eq_self, ne_eq, env_bT, T_3, NsOp.pv_eq, Word.pv_eq, Chan.pv_eq, Target.pv_eq, P38_eq, Mount.pv_eq, P31_eq, Ns.pv_eq, eqT_3]
        refine AW.cond (b := decide (op1.kind_ = 5)) rfl (fun hb22 => ?_) (fun hb22 => ?_)
        · replace h := bif_t hb22 h
          refine AW.seq ?_
          replace h := Option.bind_eq_some_iff.1 h; obtain ⟨r23, q24, h⟩ := h
          have f25 := fun hg => c_F34 op1.new_ r23 (guardO_t q24 hg)
          try dsimp only at f25
          refine AW.reg hS [(2, .pv (.bool ((decide (op1.flag_ = 0) && r23) && decide (op1.old_ = []))))] [.var [.pv (.int .i64 op1.kind_), .pv (.int .i64 op1.flag_), .pv (.str op1.new_), .pv (.str op1.old_)]] ?_ ?_
          · clear h
            (simp -implicitDefEqProofs only [RUNS, qindex, Nat.reduceAdd, Nat.reduceLeDiff, Nat.reduceSub, reduceIte, Nat.reduceEqDiff, Nat.reduceLT, reduceCtorEq, Nat.reduceMul, if_true, if_false, eq_self, ne_eq, env_bT, T_3, T_9, T_23, NsOp.pv_eq, Word.pv_eq, Chan.pv_eq, Target.pv_eq, P38_eq, Mount.pv_eq, P31_eq, Ns.pv_eq, eqT_3, pf_34, f25, eqT_9]); repeat' (split <;> rename_i hb <;> (try simp only [HBS, ge_iff_le, gt_iff_lt] at hb) <;> simp -implicitDefEqProofs only [RUNS, qindex, Nat.reduceAdd, Nat.reduceLeDiff, Nat.reduceSub, reduceIte, Nat.reduceEqDiff, Nat.reduceLT, reduceCtorEq, Nat.reduceMul, if_true, if_false, eq_self, ne_eq, env_bT, T_3, T_9, T_23, NsOp.pv_eq, Word.pv_eq, Chan.pv_eq, Target.pv_eq, P38_eq, Mount.pv_eq, P31_eq, Ns.pv_eq, eqT_3, pf_34, f25, eqT_9, *, decide_true, decide_false, Decidable.not_not, not_false_eq_true, not_true_eq_false])
            all_goals (first | (simp only [BOOLS]; done) | (simp [*]; done) | ((try simp only [CLOS, beq_iff_eq, bne_iff_ne, ne_eq] at *) <;> omega) | (simp_all; done) | (simp_all <;> omega))
          refine AW.ret ?_
          cases h
          show finish _ _ _ _ _ = _
          first | rfl | (simp [finish, resOf, renArgs, toPV, selObjs, sl])
        · replace h := bif_f hb22 h
          refine AW.skip ?_
          refine AW.seq ?_
          refine AW.reg hS [(2, .pv (.bool false))] [.var [.pv (.int .i64 op1.kind_), .pv (.int .i64 op1.flag_), .pv (.str op1.new_), .pv (.str op1.old_)]] ?_ ?_
          · simp -implicitDefEqProofs only [RUNS, qindex, Nat.reduceAdd, Nat.reduceLeDiff, Nat.reduceSub, reduceIte, Nat.reduceEqDiff, Nat.reduceLT, reduceCtorEq, Nat.reduceMul, if_true, if_false, eq_self, ne_eq, env_bT, NsOp.pv_eq, Word.pv_eq, Chan.pv_eq, Target.pv_eq, P38_eq, Mount.pv_eq, P31_eq, Ns.pv_eq]
          refine AW.ret ?_
          cases h
          show finish _ _ _ _ _ = _
          first | rfl | (simp [finish, resOf, renArgs, toPV, selObjs, sl])

set_option maxHeartbeats 4000000 in
theorem g_F35 {O : Orc} (hS : Sound env O) (hpf : O.pf = pfn) (kind1 : Int) (r2 : Str) (h : F35 kind1 = some r2) : Good env 35 [.pv (.int .i64 kind1)] [] [.pv (.str r2)] [] := by
  refine Good.start (fn := Tryd.f35) (N := 12) rfl rfl rfl (by simp) [] _ rfl rfl ?_
  rw [F35] at h
  refine AW.seq ?_
  refine AW.reg hS [(0, .pv (.int .i64 kind1))] [] ?_ ?_
  · simp -implicitDefEqProofs only [RUNS, qindex, Nat.reduceAdd, Nat.reduceLeDiff, Nat.reduceSub, reduceIte, Nat.reduceEqDiff, Nat.reduceLT, reduceCtorEq, Nat.reduceMul, if_true, if_false, eq_self, ne_eq, env_bT, NsOp.pv_eq, Word.pv_eq, Chan.pv_eq, Target.pv_eq, P38_eq, Mount.pv_eq, P31_eq, Ns.pv_eq]
  refine AW.seq ?_
  refine AW.seq ?_
  refine AW.reg hS [(3, .pv (.int .i64 kind1))] [] ?_ ?_
  · simp -implicitDefEqProofs only [RUNS, qindex, Nat.reduceAdd, Nat.reduceLeDiff, Nat.reduceSub, reduceIte, Nat.reduceEqDiff, Nat.reduceLT, reduceCtorEq, Nat.reduceMul, if_true, if_false, eq_self, ne_eq, env_bT, NsOp.pv_eq, Word.pv_eq, Chan.pv_eq, Target.pv_eq, P38_eq, Mount.pv_eq, P31_eq, Ns.pv_eq]
  refine AW.block ?_
  refine AW.seq ?_
  refine AW.reg hS [(3, .pv (.int .i64 kind1)), (4, .pv (.bool (decide (kind1 = 1))))] [] ?_ ?_
  · simp -implicitDefEqProofs only [RUNS, qindex, Nat.reduceAdd, Nat.reduceLeDiff, Nat.reduceSub, reduceIte, Nat.reduceEqDiff, Nat.reduceLT, reduceCtorEq, Nat.reduceMul, if_true, if_false, eq_self, ne_eq, env_bT, T_3, NsOp.pv_eq, Word.pv_eq, Chan.pv_eq, Target.pv_eq, P38_eq, Mount.pv_eq, P31_eq, Ns.pv_eq, eqT_3]
  refine AW.cond (b := decide (kind1 = 1)) rfl (fun hb3 => ?_) (fun hb3 => ?_)
  · replace h := bif_t hb3 h
    refine AW.seq ?_
    refine AW.reg hS [(2, .pv (.str [98, 105, 110, 100]))] [] ?_ ?_
    · simp -implicitDefEqProofs only [RUNS, qindex, Nat.reduceAdd, Nat.reduceLeDiff, Nat.reduceSub, reduceIte, Nat.reduceEqDiff, Nat.reduceLT, reduceCtorEq, Nat.reduceMul, if_true, if_false, eq_self, ne_eq, env_bT, NsOp.pv_eq, Word.pv_eq, Chan.pv_eq, Target.pv_eq, P38_eq, Mount.pv_eq, P31_eq, Ns.pv_eq]
    refine AW.ret ?_
    cases h
    show finish _ _ _ _ _ = _
    first | rfl | (simp [finish, resOf, renArgs, toPV, selObjs, sl])
  · replace h := bif_f hb3 h
    refine AW.seq ?_
    refine AW.reg hS [(3, .pv (.int .i64 kind1)), (6, .pv (.bool (decide (kind1 = 2))))] [] ?_ ?_
    · simp -implicitDefEqProofs only [RUNS, qindex, Nat.reduceAdd, Nat.reduceLeDiff, Nat.reduceSub, reduceIte, Nat.reduceEqDiff, Nat.reduceLT, reduceCtorEq, Nat.reduceMul, if_true, if_false, eq_self, ne_eq, env_bT, T_3, NsOp.pv_eq, Word.pv_eq, Chan.pv_eq, Target.pv_eq, P38_eq, Mount.pv_eq, P31_eq, Ns.pv_eq, eqT_3]
    refine AW.cond (b := decide (kind1 = 2)) rfl (fun hb4 => ?_) (fun hb4 => ?_)
    · replace h := bif_t hb4 h
      refine AW.seq ?_
      refine AW.reg hS [(2, .pv (.str [109, 111, 117, 110, 116]))] [] ?_ ?_
      · simp -implicitDefEqProofs only [RUNS, qindex, Nat.reduceAdd, Nat.reduceLeDiff, Nat.reduceSub, reduceIte, Nat.reduceEqDiff, Nat.reduceLT, reduceCtorEq, Nat.reduceMul, if_true, if_false, eq_self, ne_eq, env_bT, NsOp.pv_eq, Word.pv_eq, Chan.pv_eq, Target.pv_eq, P38_eq, Mount.pv_eq, P31_eq, Ns.pv_eq]
      refine AW.ret ?_
      cases h
      show finish _ _ _ _ _ = _
      first | rfl | (simp [finish, resOf, renArgs, toPV, selObjs, sl])
    · replace h := bif_f hb4 h
      refine AW.seq ?_
      refine AW.reg hS [(3, .pv (.int .i64 kind1)), (8, .pv (.bool (decide (kind1 = 3))))] [] ?_ ?_
      · simp -implicitDefEqProofs only [RUNS, qindex, Nat.reduceAdd, Nat.reduceLeDiff, Nat.reduceSub, reduceIte, Nat.reduceEqDiff, Nat.reduceLT, reduceCtorEq, Nat.reduceMul, if_true, if_false, eq_self, ne_eq, env_bT, T_3, NsOp.pv_eq, Word.pv_eq, Chan.pv_eq, Target.pv_eq, P38_eq, Mount.pv_eq, P31_eq, Ns.pv_eq, eqT_3]
      refine AW.cond (b := decide (kind1 = 3)) rfl (fun hb5 => ?_) (fun hb5 => ?_)
      · replace h := bif_t hb5 h
        refine AW.seq ?_
        refine AW.reg hS [(2, .pv (.str [117, 110, 109, 111, 117, 110, 116]))] [] ?_ ?_
        · simp -implicitDefEqProofs only [RUNS, qindex, Nat.reduceAdd, Nat.reduceLeDiff, Nat.reduceSub, reduceIte, Nat.reduceEqDiff, Nat.reduceLT, reduceCtorEq, Nat.reduceMul, if_true, if_false, eq_self, ne_eq, env_bT, NsOp.pv_eq, Word.pv_eq, Chan.pv_eq, Target.pv_eq, P38_eq, Mount.pv_eq, P31_eq, Ns.pv_eq]
        refine AW.ret ?_
        cases h
        show finish _ _ _ _ _ = _
        first | rfl | (simp [finish, resOf, renArgs, toPV, selObjs, sl])
      · replace h := bif_f hb5 h
        refine AW.seq ?_
        refine AW.reg hS [(10, .pv (.bool (decide (kind1 = 4))))] [] ?_ ?_
        · simp -implicitDefEqProofs only [RUNS, qindex, Nat.reduceAdd, Nat.reduceLeDiff, Nat.reduceSub, reduceIte, Nat.reduceEqDiff, Nat.reduceLT, reduceCtorEq, Nat.reduceMul, if_true, if_false, eq_self, ne_eq, env_bT, T_3, NsOp.pv_eq, Word.pv_eq, Chan.pv_eq, Target.pv_eq, P38_eq, Mount.pv_eq, P31_eq, Ns.pv_eq, eqT_3]
        refine AW.cond (b := decide (kind1 = 4)) rfl (fun hb6 => ?_) (fun hb6 => ?_)
        · replace h := bif_t hb6 h
          refine AW.seq ?_
          refine AW.reg hS [(2, .pv (.str [99, 108, 101, 97, 114]))] [] ?_ ?_
          · simp -implicitDefEqProofs only [RUNS, qindex, Nat.reduceAdd, Nat.reduceLeDiff, Nat.reduceSub, reduceIte, Nat.reduceEqDiff, Nat.reduceLT, reduceCtorEq, Nat.reduceMul, if_true, if_false, eq_self, ne_eq, env_bT, NsOp.pv_eq, Word.pv_eq, Chan.pv_eq, Target.pv_eq, P38_eq, Mount.pv_eq, P31_eq, Ns.pv_eq]
          refine AW.ret ?_
          cases h
          show finish _ _ _ _ _ = _
          first | rfl | (simp [finish, resOf, renArgs, toPV, selObjs, sl])
        · replace h := bif_f hb6 h
          refine AW.skip ?_
          refine AW.seq ?_
          refine AW.reg hS [(2, .pv (.str [99, 100]))] [] ?_ ?_
          · simp -implicitDefEqProofs only [RUNS, qindex, Nat.reduceAdd, Nat.reduceLeDiff, Nat.reduceSub, reduceIte, Nat.reduceEqDiff, Nat.reduceLT, reduceCtorEq, Nat.reduceMul, if_true, if_false, eq_self, ne_eq, env_bT, NsOp.pv_eq, Word.pv_eq, Chan.pv_eq, Target.pv_eq, P38_eq, Mount.pv_eq, P31_eq, Ns.pv_eq]
          refine AW.ret ?_
          cases h
          show finish _ _ _ _ _ = _
          first | rfl | (simp [finish, resOf, renArgs, toPV, selObjs, sl])

set_option maxHeartbeats 4000000 in
theorem g_F36 {O : Orc} (hS : Sound env O) (hpf : O.pf = pfn) (n1 : Int) (r2 : Str) (h : F36 n1 = some r2) : Good env 36 [.pv (.int .i64 n1)] [] [.pv (.str r2)] [] := by
  refine Good.start (fn := Tryd.f36) (N := 19) rfl rfl rfl (by simp) [] _ rfl rfl ?_
  rw [F36] at h
  refine AW.seq ?_
  refine AW.reg hS [(0, .pv (.int .i64 n1))] [] ?_ ?_
  · simp -implicitDefEqProofs only [RUNS, qindex, Nat.reduceAdd, Nat.reduceLeDiff, Nat.reduceSub, reduceIte, Nat.reduceEqDiff, Nat.reduceLT, reduceCtorEq, Nat.reduceMul, if_true, if_false, eq_self, ne_eq, env_bT, NsOp.pv_eq, Word.pv_eq, Chan.pv_eq, Target.pv_eq, P38_eq, Mount.pv_eq, P31_eq, Ns.pv_eq]
  refine AW.seq ?_
  refine AW.reg hS [(0, .pv (.int .i64 n1)), (3, .pv (.str []))] [] ?_ ?_
  · simp -implicitDefEqProofs only [RUNS, qindex, Nat.reduceAdd, Nat.reduceLeDiff, Nat.reduceSub, reduceIte, Nat.reduceEqDiff, Nat.reduceLT, reduceCtorEq, Nat.reduceMul, if_true, if_false, eq_self, ne_eq, env_bT, NsOp.pv_eq, Word.pv_eq, Chan.pv_eq, Target.pv_eq, P38_eq, Mount.pv_eq, P31_eq, Ns.pv_eq]
  refine AW.seqM ⟨sl [(0, .pv (.int .i64 n1)), (3, .pv (.str (bif decide (bits .andNot .i64 n1 4 = 1) then [98] else (bif decide (bits .andNot .i64 n1 4 = 2) then [97] else []))))], 19, []⟩ ?_ ?_
  · refine AW.seq ?_
    refine AW.reg hS [(0, .pv (.int .i64 n1)), (3, .pv (.str [])), (5, .pv (.int .i64 (bits .andNot .i64 n1 4)))] [] ?_ ?_
    · simp -implicitDefEqProofs only [RUNS, qindex, Nat.reduceAdd, Nat.reduceLeDiff, Nat.reduceSub, reduceIte, Nat.reduceEqDiff, Nat.reduceLT, reduceCtorEq, Nat.reduceMul, if_true, if_false, eq_self, ne_eq, env_bT, T_3, NsOp.pv_eq, Word.pv_eq, Chan.pv_eq, Target.pv_eq, P38_eq, Mount.pv_eq, P31_eq, Ns.pv_eq, eqT_3]
    refine AW.block ?_
    refine AW.seq ?_
    refine AW.reg hS [(0, .pv (.int .i64 n1)), (3, .pv (.str [])), (5, .pv (.int .i64 (bits .andNot .i64 n1 4))), (6, .pv (.bool (decide (bits .andNot .i64 n1 4 = 1))))] [] ?_ ?_
    · simp -implicitDefEqProofs only [RUNS, qindex, Nat.reduceAdd, Nat.reduceLeDiff, Nat.reduceSub, reduceIte, Nat.reduceEqDiff, Nat.reduceLT, reduceCtorEq, Nat.reduceMul, if_true, if_false, eq_self, ne_eq, env_bT, T_3, NsOp.pv_eq, Word.pv_eq, Chan.pv_eq, Target.pv_eq, P38_eq, Mount.pv_eq, P31_eq, Ns.pv_eq, eqT_3]
    refine AW.cond (b := decide (bits .andNot .i64 n1 4 = 1)) rfl (fun hb3 => ?_) (fun hb3 => ?_)
    · refine AW.reg hS [(0, .pv (.int .i64 n1)), (3, .pv (.str [98]))] [] ?_ ?_
      · simp -implicitDefEqProofs only [RUNS, qindex, Nat.reduceAdd, Nat.reduceLeDiff, Nat.reduceSub, reduceIte, Nat.reduceEqDiff, Nat.reduceLT, reduceCtorEq, Nat.reduceMul, if_true, if_false, eq_self, ne_eq, env_bT, NsOp.pv_eq, Word.pv_eq, Chan.pv_eq, Target.pv_eq, P38_eq, Mount.pv_eq, P31_eq, Ns.pv_eq]
      exact Weak.of_eq (Weak.slots (L := [(0, .pv (.int .i64 n1)), (3, .pv (.str [98]))]) ⟨rfl, rfl, trivial⟩) (by simp only [hb3, cond_true, cond_false, Bool.true_or, Bool.false_or, Bool.true_and, Bool.false_and, Bool.or_true, Bool.or_false, Bool.and_true, Bool.and_false, Bool.not_true, Bool.not_false])
    · refine AW.seq ?_
      refine AW.reg hS [(0, .pv (.int .i64 n1)), (3, .pv (.str [])), (8, .pv (.bool (decide (bits .andNot .i64 n1 4 = 2))))] [] ?_ ?_
      · simp -implicitDefEqProofs only [RUNS, qindex, Nat.reduceAdd, Nat.reduceLeDiff, Nat.reduceSub, reduceIte, Nat.reduceEqDiff, Nat.reduceLT, reduceCtorEq, Nat.reduceMul, if_true, if_false, eq_self, ne_eq, env_bT, T_3, NsOp.pv_eq, Word.pv_eq, Chan.pv_eq, Target.pv_eq, P38_eq, Mount.pv_eq, P31_eq, Ns.pv_eq, eqT_3]
      refine AW.cond (b := decide (bits .andNot .i64 n1 4 = 2)) rfl (fun hb4 => ?_) (fun hb4 => ?_)
      · refine AW.reg hS [(0, .pv (.int .i64 n1)), (3, .pv (.str [97]))] [] ?_ ?_
        · simp -implicitDefEqProofs only [RUNS, qindex, Nat.reduceAdd, Nat.reduceLeDiff, Nat.reduceSub, reduceIte, Nat.reduceEqDiff, Nat.reduceLT, reduceCtorEq, Nat.reduceMul, if_true, if_false, eq_self, ne_eq, env_bT, NsOp.pv_eq, Word.pv_eq, Chan.pv_eq, Target.pv_eq, P38_eq, Mount.pv_eq, P31_eq, Ns.pv_eq]
        exact Weak.of_eq (Weak.slots (L := [(0, .pv (.int .i64 n1)), (3, .pv (.str [97]))]) ⟨rfl, rfl, trivial⟩) (by simp only [hb3, hb4, cond_true, cond_false, Bool.true_or, Bool.false_or, Bool.true_and, Bool.false_and, Bool.or_true, Bool.or_false, Bool.and_true, Bool.and_false, Bool.not_true, Bool.not_false])
      · refine AW.skip ?_
        exact Weak.of_eq (Weak.slots (L := [(0, .pv (.int .i64 n1)), (3, .pv (.str []))]) ⟨rfl, rfl, trivial⟩) (by simp only [hb3, hb4, cond_true, cond_false, Bool.true_or, Bool.false_or, Bool.true_and, Bool.false_and, Bool.or_true, Bool.or_false, Bool.and_true, Bool.and_false, Bool.not_true, Bool.not_false])
  refine AW.seqJ (α := Str) (fun s5 => ⟨sl [(3, .pv (.str s5))], 19, []⟩) (fun x => F36_j1 x = some r2) ?_ ?_
  · intro s5 h
    rw [F36_j1] at h
    try dsimp only at h
    show AW _ _ _ _ ⟨sl [(3, .pv (.str s5))], 19, []⟩
    refine AW.seq ?_
    refine AW.seq ?_
    refine AW.reg hS [(3, .pv (.str s5)), (16, .pv (.bool (decide (s5 = []))))] [] ?_ ?_
    · simp -implicitDefEqProofs only [RUNS, qindex, Nat.reduceAdd, Nat.reduceLeDiff, Nat.reduceSub, reduceIte, Nat.reduceEqDiff, Nat.reduceLT, reduceCtorEq, Nat.reduceMul, if_true, if_false, eq_self, ne_eq, env_bT, T_9, NsOp.pv_eq, Word.pv_eq, Chan.pv_eq, Target.pv_eq, P38_eq, Mount.pv_eq, P31_eq, Ns.pv_eq, eqT_9]
    refine AW.cond (b := decide (s5 = [])) rfl (fun hb6 => ?_) (fun hb6 => ?_)
    · replace h := bif_t hb6 h
      refine AW.seq ?_
      refine AW.reg hS [(2, .pv (.str []))] [] ?_ ?_
      · simp -implicitDefEqProofs only [RUNS, qindex, Nat.reduceAdd, Nat.reduceLeDiff, Nat.reduceSub, reduceIte, Nat.reduceEqDiff, Nat.reduceLT, reduceCtorEq, Nat.reduceMul, if_true, if_false, eq_self, ne_eq, env_bT, NsOp.pv_eq, Word.pv_eq, Chan.pv_eq, Target.pv_eq, P38_eq, Mount.pv_eq, P31_eq, Ns.pv_eq]
      refine AW.ret ?_
      cases h
      show finish _ _ _ _ _ = _
      first | rfl | (simp [finish, resOf, renArgs, toPV, selObjs, sl])
    · replace h := bif_f hb6 h
      refine AW.skip ?_
      refine AW.seq ?_
      replace h := Option.bind_eq_some_iff.1 h; obtain ⟨s7, q8, h⟩ := h
      have f9 := catO_f q8
      try simp only [List.length_cons, List.length_nil, Nat.zero_add, Nat.reduceAdd, Nat.reduceLeDiff, Nat.add_zero, Nat.reduceMul] at f9
      refine AW.reg hS [(2, .pv (.str s7))] [] ?_ ?_
      · simp -implicitDefEqProofs only [RUNS, qindex, Nat.reduceAdd, Nat.reduceLeDiff, Nat.reduceSub, reduceIte, Nat.reduceEqDiff, Nat.reduceLT, reduceCtorEq, Nat.reduceMul, if_true, if_false, eq_self, ne_eq, env_bT, T_9, NsOp.pv_eq, Word.pv_eq, Chan.pv_eq, Target.pv_eq, P38_eq, Mount.pv_eq, P31_eq, Ns.pv_eq, eqT_9, f9.1, f9.2]
      refine AW.ret ?_
      cases h
      show finish _ _ _ _ _ = _
      first | rfl | (simp [finish, resOf, renArgs, toPV, selObjs, sl])
  refine AW.seq ?_
  refine AW.reg hS [(3, .pv (.str (bif decide (bits .andNot .i64 n1 4 = 1) then [98] else (bif decide (bits .andNot .i64 n1 4 = 2) then [97] else [])))), (12, .pv (.bool (!decide (bits .and .i64 n1 4 = 0))))] [] ?_ ?_
  · simp -implicitDefEqProofs only [RUNS, qindex, Nat.reduceAdd, Nat.reduceLeDiff, Nat.reduceSub, reduceIte, Nat.reduceEqDiff, Nat.reduceLT, reduceCtorEq, Nat.reduceMul, if_true, if_false, eq_self, ne_eq, env_bT, T_3, NsOp.pv_eq, Word.pv_eq, Chan.pv_eq, Target.pv_eq, P38_eq, Mount.pv_eq, P31_eq, Ns.pv_eq, eqT_3]
  refine AW.cond (b := !decide (bits .and .i64 n1 4 = 0)) rfl (fun hb10 => ?_) (fun hb10 => ?_)
  · replace h := bif_t hb10 h
    replace h := Option.bind_eq_some_iff.1 h; obtain ⟨s11, q12, h⟩ := h
    have f13 := catO_f q12
    try simp only [List.length_cons, List.length_nil, Nat.zero_add, Nat.reduceAdd, Nat.reduceLeDiff, Nat.add_zero, Nat.reduceMul] at f13
    refine AW.reg hS [(3, .pv (.str s11))] [] ?_ ?_
    · simp -implicitDefEqProofs only [RUNS, qindex, Nat.reduceAdd, Nat.reduceLeDiff, Nat.reduceSub, reduceIte, Nat.reduceEqDiff, Nat.reduceLT, reduceCtorEq, Nat.reduceMul, if_true, if_false, eq_self, ne_eq, env_bT, T_9, NsOp.pv_eq, Word.pv_eq, Chan.pv_eq, Target.pv_eq, P38_eq, Mount.pv_eq, P31_eq, Ns.pv_eq, eqT_9, f13.1, f13.2]
    exact ⟨s11, h, (Weak.norm (m := 0) (Nat.le_of_ble_eq_true rfl) ⟨rfl, trivial⟩ rfl rfl rfl)⟩
  · replace h := bif_f hb10 h
    refine AW.skip ?_
    exact ⟨(bif decide (bits .andNot .i64 n1 4 = 1) then [98] else (bif decide (bits .andNot .i64 n1 4 = 2) then [97] else [])), h, (Weak.norm (m := 0) (Nat.le_of_ble_eq_true rfl) ⟨rfl, trivial⟩ rfl rfl rfl)⟩

set_option maxHeartbeats 4000000 in
theorem g_F37 {O : Orc} (hS : Sound env O) (hpf : O.pf = pfn) (c_L_ReplaceAll : C_L_ReplaceAll O) (s1 : Str) (r2 : Str) (h : F37 s1 = some r2) : Good env 37 [.pv (.str s1)] [] [.pv (.str r2)] [] := by
  have pf_49 : O.pf 49 = true := by rw [hpf]; rfl
  refine Good.start (fn := Tryd.f37) (N := 48) rfl rfl rfl (by simp) [] _ rfl rfl ?_
  rw [F37] at h
  refine AW.seq ?_
  refine AW.reg hS [(0, .pv (.str s1))] [] ?_ ?_
  · simp -implicitDefEqProofs only [RUNS, qindex, Nat.reduceAdd, Nat.reduceLeDiff, Nat.reduceSub, reduceIte, Nat.reduceEqDiff, Nat.reduceLT, reduceCtorEq, Nat.reduceMul, if_true, if_false, eq_self, ne_eq, env_bT, NsOp.pv_eq, Word.pv_eq, Chan.pv_eq, Target.pv_eq, P38_eq, Mount.pv_eq, P31_eq, Ns.pv_eq]
  refine AW.seq ?_
  replace h := Option.bind_eq_some_iff.1 h; obtain ⟨c3, q4, h⟩ := h
  have f5 := sidx_g (guardO_t q4)
  refine AW.reg hS [(0, .pv (.str s1)), (3, .pv (.bool ((!decide (s1 = []) && !decide (c3 = 45)) && !decide (c3 = 35))))] [] ?_ ?_
  · clear h
    (simp -implicitDefEqProofs only [RUNS, qindex, Nat.reduceAdd, Nat.reduceLeDiff, Nat.reduceSub, reduceIte, Nat.reduceEqDiff, Nat.reduceLT, reduceCtorEq, Nat.reduceMul, if_true, if_false, eq_self, ne_eq, env_bT, T_5, T_9, NsOp.pv_eq, Word.pv_eq, Chan.pv_eq, Target.pv_eq, P38_eq, Mount.pv_eq, P31_eq, Ns.pv_eq, eqT_9, f5.1, f5.2.1, f5.2.2, eqT_5]); repeat' (split <;> rename_i hb <;> (try simp only [HBS, ge_iff_le, gt_iff_lt] at hb) <;> simp -implicitDefEqProofs only [RUNS, qindex, Nat.reduceAdd, Nat.reduceLeDiff, Nat.reduceSub, reduceIte, Nat.reduceEqDiff, Nat.reduceLT, reduceCtorEq, Nat.reduceMul, if_true, if_false, eq_self, ne_eq, env_bT, T_5, T_9, NsOp.pv_eq, Word.pv_eq, Chan.pv_eq, Target.pv_eq, P38_eq, Mount.pv_eq, P31_eq, Ns.pv_eq, eqT_9, f5.1, f5.2.1, f5.2.2, eqT_5, *, decide_true, decide_false, Decidable.not_not, not_false_eq_true, not_true_eq_false])
    all_goals (first | (simp only [BOOLS]; done) | (simp [*]; done) | ((try simp only [CLOS, beq_iff_eq, bne_iff_ne, ne_eq] at *) <;> omega) | (simp_all; done) | (simp_all <;> omega))
  refine AW.seq ?_
  refine AW.seq ?_
  refine AW.reg hS [(0, .pv (.str s1)), (3, .pv (.bool ((!decide (s1 = []) && !decide (c3 = 45)) && !decide (c3 = 35)))), (18, .pv (.int .i64 (s1.length : Int))), (19, .pv (.int .i64 0))] [] ?_ ?_
  · simp -implicitDefEqProofs only [RUNS, qindex, Nat.reduceAdd, Nat.reduceLeDiff, Nat.reduceSub, reduceIte, Nat.reduceEqDiff, Nat.reduceLT, reduceCtorEq, Nat.reduceMul, if_true, if_false, eq_self, ne_eq, env_bT, T_9, NsOp.pv_eq, Word.pv_eq, Chan.pv_eq, Target.pv_eq, P38_eq, Mount.pv_eq, P31_eq, Ns.pv_eq]
  refine AW.block ?_
  refine AW.weak (Weak.slots (L := [(0, .pv (.str s1)), (3, .pv (.bool ((!decide (s1 = []) && !decide (c3 = 45)) && !decide (c3 = 35)))), (18, .pv (.int .i64 (s1.length : Int))), (19, .pv (.int .i64 0))]) ⟨rfl, rfl, rfl, rfl, trivial⟩) ?_
  refine AW.loopI (α := Nat × Bool × Int) (fun (_, plain6, i7) => ⟨sl [(0, .pv (.str s1)), (3, .pv (.bool plain6)), (18, .pv (.int .i64 (s1.length : Int))), (19, .pv (.int .i64 i7))], 48, []⟩) (fun x => iter (F37_b1 s1) x.1 x.2 = some r2) (fun x => x.1) (BIG, (((!decide (s1 = []) && !decide (c3 = 45)) && !decide (c3 = 35)), 0)) h ?_
  clear h
  intro ⟨n25, plain6, i7⟩ h
  replace h := iter_some h; obtain ⟨m10, rfl, h⟩ := h
  rw [F37_b1] at h
  try dsimp only at h
  show AW _ _ _ _ ⟨sl [(0, .pv (.str s1)), (3, .pv (.bool plain6)), (18, .pv (.int .i64 (s1.length : Int))), (19, .pv (.int .i64 i7))], 48, []⟩
  refine AW.seq ?_
  refine AW.reg hS [(0, .pv (.str s1)), (3, .pv (.bool plain6)), (18, .pv (.int .i64 (s1.length : Int))), (19, .pv (.int .i64 i7)), (20, .pv (.bool (decide (i7 < (s1.length : Int)))))] [] ?_ ?_
  · simp -implicitDefEqProofs only [RUNS, qindex, Nat.reduceAdd, Nat.reduceLeDiff, Nat.reduceSub, reduceIte, Nat.reduceEqDiff, Nat.reduceLT, reduceCtorEq, Nat.reduceMul, if_true, if_false, eq_self, ne_eq, env_bT, T_3, NsOp.pv_eq, Word.pv_eq, Chan.pv_eq, Target.pv_eq, P38_eq, Mount.pv_eq, P31_eq, Ns.pv_eq, eqT_3]
  refine AW.seq ?_
  refine AW.cond (b := decide (i7 < (s1.length : Int))) rfl (fun hb11 => ?_) (fun hb11 => ?_)
  · replace h := bif_t hb11 h
    refine AW.skip ?_
    refine AW.seq ?_
    refine AW.block ?_
    refine AW.seq ?_
    refine AW.reg hS [(0, .pv (.str s1)), (3, .pv (.bool plain6)), (4, .pv (.int .i64 i7)), (18, .pv (.int .i64 (s1.length : Int))), (19, .pv (.int .i64 i7))] [] ?_ ?_
    · simp -implicitDefEqProofs only [RUNS, qindex, Nat.reduceAdd, Nat.reduceLeDiff, Nat.reduceSub, reduceIte, Nat.reduceEqDiff, Nat.reduceLT, reduceCtorEq, Nat.reduceMul, if_true, if_false, eq_self, ne_eq, env_bT, NsOp.pv_eq, Word.pv_eq, Chan.pv_eq, Target.pv_eq, P38_eq, Mount.pv_eq, P31_eq, Ns.pv_eq]
    replace h := Option.bind_eq_some_iff.1 h; obtain ⟨c12, q13, h⟩ := h
    have f14 := sidx_g (guardO_t q13)
    refine AW.reg hS [(0, .pv (.str s1)), (3, .pv (.bool (((plain6 && !decide (c12 = 32)) && !decide (c12 = 9)) && !decide (c12 = 39)))), (18, .pv (.int .i64 (s1.length : Int))), (19, .pv (.int .i64 i7))] [] ?_ ?_
    · clear h
      (simp -implicitDefEqProofs only [RUNS, qindex, Nat.reduceAdd, Nat.reduceLeDiff, Nat.reduceSub, reduceIte, Nat.reduceEqDiff, Nat.reduceLT, reduceCtorEq, Nat.reduceMul, if_true, if_false, eq_self, ne_eq, env_bT, T_5, T_9, NsOp.pv_eq, Word.pv_eq, Chan.pv_eq, Target.pv_eq, P38_eq, Mount.pv_eq, P31_eq, Ns.pv_eq, f14.1, f14.2.1, f14.2.2, eqT_5]); repeat' (split <;> rename_i hb <;> (try simp only [HBS, ge_iff_le, gt_iff_lt] at hb) <;> simp -implicitDefEqProofs only [RUNS, qindex, Nat.reduceAdd, Nat.reduceLeDiff, Nat.reduceSub, reduceIte, Nat.reduceEqDiff, Nat.reduceLT, reduceCtorEq, Nat.reduceMul, if_true, if_false, eq_self, ne_eq, env_bT, T_5, T_9, NsOp.pv_eq, Word.pv_eq, Chan.pv_eq, Target.pv_eq, P38_eq, Mount.pv_eq, P31_eq, Ns.pv_eq, f14.1, f14.2.1, f14.2.2, eqT_5, *, decide_true, decide_false, Decidable.not_not, not_false_eq_true, not_true_eq_false])
      all_goals (first | (simp only [BOOLS]; done) | (simp [*]; done) | ((try simp only [CLOS, beq_iff_eq, bne_iff_ne, ne_eq] at *) <;> omega) | (simp_all; done) | (simp_all <;> omega))
    refine AW.reg hS [(0, .pv (.str s1)), (3, .pv (.bool (((plain6 && !decide (c12 = 32)) && !decide (c12 = 9)) && !decide (c12 = 39)))), (18, .pv (.int .i64 (s1.length : Int))), (19, .pv (.int .i64 (IntKind.wrap .i64 (i7 + 1))))] [] ?_ ?_
    · simp -implicitDefEqProofs only [RUNS, qindex, Nat.reduceAdd, Nat.reduceLeDiff, Nat.reduceSub, reduceIte, Nat.reduceEqDiff, Nat.reduceLT, reduceCtorEq, Nat.reduceMul, if_true, if_false, eq_self, ne_eq, env_bT, T_3, NsOp.pv_eq, Word.pv_eq, Chan.pv_eq, Target.pv_eq, P38_eq, Mount.pv_eq, P31_eq, Ns.pv_eq, eqT_3]
    exact ⟨(m10, ((((plain6 && !decide (c12 = 32)) && !decide (c12 = 9)) && !decide (c12 = 39)), IntKind.wrap .i64 (i7 + 1))), h, (Weak.norm (m := 0) (Nat.le_of_ble_eq_true rfl) ⟨rfl, rfl, rfl, rfl, trivial⟩ rfl rfl rfl), Nat.lt_succ_self _⟩
  · replace h := bif_f hb11 h
    refine AW.exit ?_
    refine AW.seq ?_
    refine AW.seq ?_
    refine AW.reg hS [(0, .pv (.str s1)), (42, .pv (.bool plain6))] [] ?_ ?_
    · simp -implicitDefEqProofs only [RUNS, qindex, Nat.reduceAdd, Nat.reduceLeDiff, Nat.reduceSub, reduceIte, Nat.reduceEqDiff, Nat.reduceLT, reduceCtorEq, Nat.reduceMul, if_true, if_false, eq_self, ne_eq, env_bT, NsOp.pv_eq, Word.pv_eq, Chan.pv_eq, Target.pv_eq, P38_eq, Mount.pv_eq, P31_eq, Ns.pv_eq]
    refine AW.cond (b := plain6) rfl (fun hb15 => ?_) (fun hb15 => ?_)
    · replace h := bif_t hb15 h
      refine AW.seq ?_
      refine AW.reg hS [(2, .pv (.str s1))] [] ?_ ?_
      · simp -implicitDefEqProofs only [RUNS, qindex, Nat.reduceAdd, Nat.reduceLeDiff, Nat.reduceSub, reduceIte, Nat.reduceEqDiff, Nat.reduceLT, reduceCtorEq, Nat.reduceMul, if_true, if_false, eq_self, ne_eq, env_bT, NsOp.pv_eq, Word.pv_eq, Chan.pv_eq, Target.pv_eq, P38_eq, Mount.pv_eq, P31_eq, Ns.pv_eq]
      refine AW.ret ?_
      cases h
      show finish _ _ _ _ _ = _
      first | rfl | (simp [finish, resOf, renArgs, toPV, selObjs, sl])
    · replace h := bif_f hb15 h
      refine AW.skip ?_
      refine AW.seq ?_
      replace h := Option.bind_eq_some_iff.1 h; obtain ⟨t16, q17, h⟩ := h
      have f18 := c_L_ReplaceAll s1 [39] [39, 39] t16 q17
      try dsimp only at f18
      try simp only [List.map_cons, List.map_nil, NsOp.pv_eq, Word.pv_eq, Chan.pv_eq, Target.pv_eq, P38_eq, Mount.pv_eq, P31_eq, Ns.pv_eq] at f18
      replace h := Option.bind_eq_some_iff.1 h; obtain ⟨s19, q20, h⟩ := h
      have f21 := catO_f q20
      try simp only [List.length_cons, List.length_nil, Nat.zero_add, Nat.reduceAdd, Nat.reduceLeDiff, Nat.add_zero, Nat.reduceMul] at f21
      replace h := Option.bind_eq_some_iff.1 h; obtain ⟨s22, q23, h⟩ := h
      have f24 := catO_f q23
      try simp only [List.length_cons, List.length_nil, Nat.zero_add, Nat.reduceAdd, Nat.reduceLeDiff, Nat.add_zero, Nat.reduceMul] at f24
      refine AW.reg hS [(2, .pv (.str s22))] [] ?_ ?_
      · simp -implicitDefEqProofs only [RUNS, qindex, Nat.reduceAdd, Nat.reduceLeDiff, Nat.reduceSub, reduceIte, Nat.reduceEqDiff, Nat.reduceLT, reduceCtorEq, Nat.reduceMul, if_true, if_false, eq_self, ne_eq, env_bT, T_9, NsOp.pv_eq, Word.pv_eq, Chan.pv_eq, Target.pv_eq, P38_eq, Mount.pv_eq, P31_eq, Ns.pv_eq, pf_49, f18, eqT_9, f21.1, f21.2, f24.1, f24.2]
      refine AW.ret ?_
      cases h
      show finish _ _ _ _ _ = _
      first | rfl | (simp [finish, resOf, renArgs, toPV, selObjs, sl])

set_option maxHeartbeats 4000000 in
theorem g_F23 {O : Orc} (hS : Sound env O) (hpf : O.pf = pfn) (c_F35 : C_F35 O) (c_F36 : C_F36 O) (c_F37 : C_F37 O) (c_L_Join : C_L_Join O) (op1 : NsOp) (r2 : Str) (h : F23 op1 = some r2) : Good env 23 [.pv (.agg [.int .i64 op1.kind_, .int .i64 op1.flag_, .str op1.new_, .str op1.old_])] [] [.pv (.str r2)] [] := by
  have pf_35 : O.pf 35 = true := by rw [hpf]; rfl
  have pf_36 : O.pf 36 = true := by rw [hpf]; rfl
  have pf_37 : O.pf 37 = true := by rw [hpf]; rfl
  have pf_38 : O.pf 38 = true := by rw [hpf]; rfl
  refine Good.start (fn := Tryd.f23) (N := 59) rfl rfl rfl (by simp) [] _ rfl rfl ?_
  rw [F23] at h
  refine AW.seq ?_
  refine AW.reg hS [(1, .ref 0 0)] [.var [.pv (.int .i64 op1.kind_), .pv (.int .i64 op1.flag_), .pv (.str op1.new_), .pv (.str op1.old_)]] ?_ ?_
  · simp -implicitDefEqProofs only [RUNS, qindex, Nat.reduceAdd, Nat.reduceLeDiff, Nat.reduceSub, reduceIte, Nat.reduceEqDiff, Nat.reduceLT, reduceCtorEq, Nat.reduceMul, if_true, if_false, eq_self, ne_eq, env_bT, T_23, NsOp.pv_eq, Word.pv_eq, Chan.pv_eq, Target.pv_eq, P38_eq, Mount.pv_eq, P31_eq, Ns.pv_eq]
  refine AW.seq ?_
  replace h := Option.bind_eq_some_iff.1 h; obtain ⟨r3, q4, h⟩ := h
  have f5 := c_F35 op1.kind_ r3 q4
  try dsimp only at f5
  refine AW.reg hS [(1, .ref 0 0), (3, .full (List.map PV.str [r3]))] [.var [.pv (.int .i64 op1.kind_), .pv (.int .i64 op1.flag_), .pv (.str op1.new_), .pv (.str op1.old_)]] ?_ ?_
  · simp -implicitDefEqProofs only [RUNS, qindex, Nat.reduceAdd, Nat.reduceLeDiff, Nat.reduceSub, reduceIte, Nat.reduceEqDiff, Nat.reduceLT, reduceCtorEq, Nat.reduceMul, if_true, if_false, eq_self, ne_eq, env_bT, T_3, T_9, T_23, T_62, NsOp.pv_eq, Word.pv_eq, Chan.pv_eq, Target.pv_eq, P38_eq, Mount.pv_eq, P31_eq, Ns.pv_eq, pf_35, f5]
  refine AW.seq ?_
  refine AW.seq ?_
  replace h := Option.bind_eq_some_iff.1 h; obtain ⟨r6, q7, h⟩ := h
  have f8 := c_F36 op1.flag_ r6 q7
  try dsimp only at f8
  refine AW.reg hS [(1, .ref 0 0), (3, .full (List.map PV.str [r3])), (4, .pv (.str r6))] [.var [.pv (.int .i64 op1.kind_), .pv (.int .i64 op1.flag_), .pv (.str op1.new_), .pv (.str op1.old_)]] ?_ ?_
  · simp -implicitDefEqProofs only [RUNS, qindex, Nat.reduceAdd, Nat.reduceLeDiff, Nat.reduceSub, reduceIte, Nat.reduceEqDiff, Nat.reduceLT, reduceCtorEq, Nat.reduceMul, if_true, if_false, eq_self, ne_eq, env_bT, T_3, T_23, NsOp.pv_eq, Word.pv_eq, Chan.pv_eq, Target.pv_eq, P38_eq, Mount.pv_eq, P31_eq, Ns.pv_eq, pf_36, f8]
  refine AW.seq ?_
  refine AW.reg hS [(1, .ref 0 0), (3, .full (List.map PV.str [r3])), (4, .pv (.str r6)), (13, .pv (.bool (!decide (r6 = []))))] [.var [.pv (.int .i64 op1.kind_), .pv (.int .i64 op1.flag_), .pv (.str op1.new_), .pv (.str op1.old_)]] ?_ ?_
  · simp -implicitDefEqProofs only [RUNS, qindex, Nat.reduceAdd, Nat.reduceLeDiff, Nat.reduceSub, reduceIte, Nat.reduceEqDiff, Nat.reduceLT, reduceCtorEq, Nat.reduceMul, if_true, if_false, eq_self, ne_eq, env_bT, T_9, NsOp.pv_eq, Word.pv_eq, Chan.pv_eq, Target.pv_eq, P38_eq, Mount.pv_eq, P31_eq, Ns.pv_eq, eqT_9]
  refine AW.cond (b := !decide (r6 = [])) rfl (fun hb9 => ?_) (fun hb9 => ?_)
  · replace h := bif_t hb9 h
    replace h := Option.bind_eq_some_iff.1 h; obtain ⟨out10, q11, h⟩ := h
    have f12 := appO_f q11
    try simp only [List.length_cons, List.length_nil, Nat.zero_add, Nat.reduceAdd, Nat.reduceLeDiff, Nat.add_zero, Nat.reduceMul] at f12
    refine AW.reg hS [(1, .ref 0 0), (3, .vec 1 (List.length out10))] [.var [.pv (.int .i64 op1.kind_), .pv (.int .i64 op1.flag_), .pv (.str op1.new_), .pv (.str op1.old_)], .row 9 1 (List.map PV.str out10) true] ?_ ?_
    · simp -implicitDefEqProofs only [RUNS, qindex, Nat.reduceAdd, Nat.reduceLeDiff, Nat.reduceSub, reduceIte, Nat.reduceEqDiff, Nat.reduceLT, reduceCtorEq, Nat.reduceMul, if_true, if_false, eq_self, ne_eq, env_bT, T_9, T_62, NsOp.pv_eq, Word.pv_eq, Chan.pv_eq, Target.pv_eq, P38_eq, Mount.pv_eq, P31_eq, Ns.pv_eq, f12.1, f12.2, str_all]
    refine AW.seq ?_
    refine AW.seq ?_
    refine AW.reg hS [(1, .ref 0 0), (3, .vec 1 (List.length out10)), (19, .pv (.int .i64 op1.kind_))] [.var [.pv (.int .i64 op1.kind_), .pv (.int .i64 op1.flag_), .pv (.str op1.new_), .pv (.str op1.old_)], .row 9 1 (List.map PV.str out10) true] ?_ ?_
    · simp -implicitDefEqProofs only [RUNS, qindex, Nat.reduceAdd, Nat.reduceLeDiff, Nat.reduceSub, reduceIte, Nat.reduceEqDiff, Nat.reduceLT, reduceCtorEq, Nat.reduceMul, if_true, if_false, eq_self, ne_eq, env_bT, T_3, T_23, NsOp.pv_eq, Word.pv_eq, Chan.pv_eq, Target.pv_eq, P38_eq, Mount.pv_eq, P31_eq, Ns.pv_eq]
    refine AW.block ?_
    refine AW.seqM ⟨sl [(1, .ref 0 0), (3, .vec 1 (List.length out10)), (19, .pv (.int .i64 op1.kind_)), (20, .pv (.bool (bif decide (op1.kind_ = 1) then decide (op1.kind_ = 1) else decide (op1.kind_ = 2))))], 59, [.var [.pv (.int .i64 op1.kind_), .pv (.int .i64 op1.flag_), .pv (.str op1.new_), .pv (.str op1.old_)], .row 9 1 (List.map PV.str out10) true]⟩ ?_ ?_
    · refine AW.seq ?_
      refine AW.reg hS [(1, .ref 0 0), (3, .vec 1 (List.length out10)), (19, .pv (.int .i64 op1.kind_)), (20, .pv (.bool (decide (op1.kind_ = 1))))] [.var [.pv (.int .i64 op1.kind_), .pv (.int .i64 op1.flag_), .pv (.str op1.new_), .pv (.str op1.old_)], .row 9 1 (List.map PV.str out10) true] ?_ ?_
      · simp -implicitDefEqProofs only [RUNS, qindex, Nat.reduceAdd, Nat.reduceLeDiff, Nat.reduceSub, reduceIte, Nat.reduceEqDiff, Nat.reduceLT, reduceCtorEq, Nat.reduceMul, if_true, if_false, eq_self, ne_eq, env_bT, T_3, NsOp.pv_eq, Word.pv_eq, Chan.pv_eq, Target.pv_eq, P38_eq, Mount.pv_eq, P31_eq, Ns.pv_eq, eqT_3]
      refine AW.cond (b := decide (op1.kind_ = 1)) rfl (fun hb13 => ?_) (fun hb13 => ?_)
      · refine AW.skip ?_
        exact Weak.of_eq (Weak.slots (L := [(1, .ref 0 0), (3, .vec 1 (List.length out10)), (19, .pv (.int .i64 op1.kind_)), (20, .pv (.bool (decide (op1.kind_ = 1))))]) ⟨rfl, rfl, rfl, rfl, trivial⟩) (by simp only [hb13, cond_true, cond_false, Bool.true_or, Bool.false_or, Bool.true_and, Bool.false_and, Bool.or_true, Bool.or_false, Bool.and_true, Bool.and_false, Bool.not_true, Bool.not_false])
      · refine AW.reg hS [(1, .ref 0 0), (3, .vec 1 (List.length out10)), (19, .pv (.int .i64 op1.kind_)), (20, .pv (.bool (decide (op1.kind_ = 2))))] [.var [.pv (.int .i64 op1.kind_), .pv (.int .i64 op1.flag_), .pv (.str op1.new_), .pv (.str op1.old_)], .row 9 1 (List.map PV.str out10) true] ?_ ?_
        · simp -implicitDefEqProofs only [RUNS, qindex, Nat.reduceAdd, Nat.reduceLeDiff, Nat.reduceSub, reduceIte, Nat.reduceEqDiff, Nat.reduceLT, reduceCtorEq, Nat.reduceMul, if_true, if_false, eq_self, ne_eq, env_bT, T_3, NsOp.pv_eq, Word.pv_eq, Chan.pv_eq, Target.pv_eq, P38_eq, Mount.pv_eq, P31_eq, Ns.pv_eq, eqT_3]
        exact Weak.of_eq (Weak.slots (L := [(1, .ref 0 0), (3, .vec 1 (List.length out10)), (19, .pv (.int .i64 op1.kind_)), (20, .pv (.bool (decide (op1.kind_ = 2))))]) ⟨rfl, rfl, rfl, rfl, trivial⟩) (by simp only [hb13, cond_true, cond_false, Bool.true_or, Bool.false_or, Bool.true_and, Bool.false_and, Bool.or_true, Bool.or_false, Bool.and_true, Bool.and_false, Bool.not_true, Bool.not_false])
    refine AW.cond (b := (bif decide (op1.kind_ = 1) then decide (op1.kind_ = 1) else decide (op1.kind_ = 2))) rfl (fun hb14 => ?_) (fun hb14 => ?_)
    · replace h := bif_t hb14 h
      replace h := Option.bind_eq_some_iff.1 h; obtain ⟨r15, q16, h⟩ := h
      have f17 := c_F37 op1.new_ r15 q16
      try dsimp only at f17
      replace h := Option.bind_eq_some_iff.1 h; obtain ⟨r18, q19, h⟩ := h
      have f20 := c_F37 op1.old_ r18 q19
      try dsimp only at f20
      replace h := Option.bind_eq_some_iff.1 h; obtain ⟨out21, q22, h⟩ := h
      have f23 := appO_f q22
      try simp only [List.length_cons, List.length_nil, Nat.zero_add, Nat.reduceAdd, Nat.reduceLeDiff, Nat.add_zero, Nat.reduceMul] at f23
      refine AW.dreg mixed hS (hpf ▸ (by kernel_rfl : orderOK pfn _ = true)) [(3, .vec 1 (List.length out21))] [.var [.pv (.int .i64 op1.kind_), .pv (.int .i64 op1.flag_), .pv (.str op1.new_), .pv (.str op1.old_)], .row 9 1 (List.map PV.str out21) true] ?_ ?_
      · simp -implicitDefEqProofs only [RUNS, qindex, Nat.reduceAdd, Nat.reduceLeDiff, Nat.reduceSub, reduceIte, Nat.reduceEqDiff, Nat.reduceLT, reduceCtorEq, Nat.reduceMul, if_true, if_false, eq_self, ne_eq, env_bT, T_9, T_23, T_62, NsOp.pv_eq, Word.pv_eq, Chan.pv_eq, Target.pv_eq, P38_eq, Mount.pv_eq, P31_eq, Ns.pv_eq, pf_37, f17, f20, f23.1, f23.2, str_all]
      refine AW.seq ?_
      replace h := Option.bind_eq_some_iff.1 h; obtain ⟨s24, q25, h⟩ := h
      have f26 := c_L_Join out21 [32] s24 q25
      try dsimp only at f26
      try simp only [List.map_cons, List.map_nil, NsOp.pv_eq, Word.pv_eq, Chan.pv_eq, Target.pv_eq, P38_eq, Mount.pv_eq, P31_eq, Ns.pv_eq] at f26
      refine AW.reg hS [(2, .pv (.str s24))] [.var [.pv (.int .i64 op1.kind_), .pv (.int .i64 op1.flag_), .pv (.str op1.new_), .pv (.str op1.old_)], .row 9 1 (List.map PV.str out21) true] ?_ ?_
      · simp -implicitDefEqProofs only [RUNS, qindex, Nat.reduceAdd, Nat.reduceLeDiff, Nat.reduceSub, reduceIte, Nat.reduceEqDiff, Nat.reduceLT, reduceCtorEq, Nat.reduceMul, if_true, if_false, eq_self, ne_eq, env_bT, T_9, T_62, NsOp.pv_eq, Word.pv_eq, Chan.pv_eq, Target.pv_eq, P38_eq, Mount.pv_eq, P31_eq, Ns.pv_eq, pf_38, f26]
      refine AW.ret ?_
      cases h
      show finish _ _ _ _ _ = _
      first | rfl | (simp [finish, resOf, renArgs, toPV, selObjs, sl])
    · replace h := bif_f hb14 h
      refine AW.seq ?_
      refine AW.reg hS [(1, .ref 0 0), (3, .vec 1 (List.length out10)), (19, .pv (.int .i64 op1.kind_)), (32, .pv (.bool (decide (op1.kind_ = 3))))] [.var [.pv (.int .i64 op1.kind_), .pv (.int .i64 op1.flag_), .pv (.str op1.new_), .pv (.str op1.old_)], .row 9 1 (List.map PV.str out10) true] ?_ ?_
      · simp -implicitDefEqProofs only [RUNS, qindex, Nat.reduceAdd, Nat.reduceLeDiff, Nat.reduceSub, reduceIte, Nat.reduceEqDiff, Nat.reduceLT, reduceCtorEq, Nat.reduceMul, if_true, if_false, eq_self, ne_eq, env_bT, T_3, NsOp.pv_eq, Word.pv_eq, Chan.pv_eq, Target.pv_eq, P38_eq, Mount.pv_eq, P31_eq, Ns.pv_eq, eqT_3]
      refine AW.cond (b := decide (op1.kind_ = 3)) rfl (fun hb27 => ?_) (fun hb27 => ?_)
      · replace h := bif_t hb27 h
        refine AW.seqJ (α := (List Str)) (fun l28 => ⟨sl [(1, .ref 0 0), (3, .vec 1 (List.length l28))], 59, [.var [.pv (.int .i64 op1.kind_), .pv (.int .i64 op1.flag_), .pv (.str op1.new_), .pv (.str op1.old_)], .row 9 1 (List.map PV.str l28) true]⟩) (fun x => F23_j1 op1 x = some r2) ?_ ?_
        · intro l28 h
          rw [F23_j1] at h
          try dsimp only at h
          show AW _ _ _ _ ⟨sl [(1, .ref 0 0), (3, .vec 1 (List.length l28))], 59, [.var [.pv (.int .i64 op1.kind_), .pv (.int .i64 op1.flag_), .pv (.str op1.new_), .pv (.str op1.old_)], .row 9 1 (List.map PV.str l28) true]⟩
          replace h := Option.bind_eq_some_iff.1 h; obtain ⟨r29, q30, h⟩ := h
          have f31 := c_F37 op1.old_ r29 q30
          try dsimp only at f31
          replace h := Option.bind_eq_some_iff.1 h; obtain ⟨out32, q33, h⟩ := h
          have f34 := appO_f q33
          try simp only [List.length_cons, List.length_nil, Nat.zero_add, Nat.reduceAdd, Nat.reduceLeDiff, Nat.add_zero, Nat.reduceMul] at f34
          refine AW.reg hS [(3, .vec 1 (List.length out32))] [.var [.pv (.int .i64 op1.kind_), .pv (.int .i64 op1.flag_), .pv (.str op1.new_), .pv (.str op1.old_)], .row 9 1 (List.map PV.str out32) true] ?_ ?_
          · simp -implicitDefEqProofs only [RUNS, qindex, Nat.reduceAdd, Nat.reduceLeDiff, Nat.reduceSub, reduceIte, Nat.reduceEqDiff, Nat.reduceLT, reduceCtorEq, Nat.reduceMul, if_true, if_false, eq_self, ne_eq, env_bT, T_9, T_23, T_62, NsOp.pv_eq, Word.pv_eq, Chan.pv_eq, Target.pv_eq, P38_eq, Mount.pv_eq, P31_eq, Ns.pv_eq, pf_37, f31, f34.1, f34.2, str_all]
          refine AW.seq ?_
          replace h := Option.bind_eq_some_iff.1 h; obtain ⟨s35, q36, h⟩ := h
          have f37 := c_L_Join out32 [32] s35 q36
          try dsimp only at f37
          try simp only [List.map_cons, List.map_nil, NsOp.pv_eq, Word.pv_eq, Chan.pv_eq, Target.pv_eq, P38_eq, Mount.pv_eq, P31_eq, Ns.pv_eq] at f37
          refine AW.reg hS [(2, .pv (.str s35))] [.var [.pv (.int .i64 op1.kind_), .pv (.int .i64 op1.flag_), .pv (.str op1.new_), .pv (.str op1.old_)], .row 9 1 (List.map PV.str out32) true] ?_ ?_
          · simp -implicitDefEqProofs only [RUNS, qindex, Nat.reduceAdd, Nat.reduceLeDiff, Nat.reduceSub, reduceIte, Nat.reduceEqDiff, Nat.reduceLT, reduceCtorEq, Nat.reduceMul, if_true, if_false, eq_self, ne_eq, env_bT, T_9, T_62, NsOp.pv_eq, Word.pv_eq, Chan.pv_eq, Target.pv_eq, P38_eq, Mount.pv_eq, P31_eq, Ns.pv_eq, pf_38, f37]
          refine AW.ret ?_
          cases h
          show finish _ _ _ _ _ = _
          first | rfl | (simp [finish, resOf, renArgs, toPV, selObjs, sl])
        refine AW.seq ?_
        refine AW.reg hS [(1, .ref 0 0), (3, .vec 1 (List.length out10)), (36, .pv (.bool (!decide (op1.new_ = []))))] [.var [.pv (.int .i64 op1.kind_), .pv (.int .i64 op1.flag_), .pv (.str op1.new_), .pv (.str op1.old_)], .row 9 1 (List.map PV.str out10) true] ?_ ?_
        · simp -implicitDefEqProofs only [RUNS, qindex, Nat.reduceAdd, Nat.reduceLeDiff, Nat.reduceSub, reduceIte, Nat.reduceEqDiff, Nat.reduceLT, reduceCtorEq, Nat.reduceMul, if_true, if_false, eq_self, ne_eq, env_bT, T_9, T_23, NsOp.pv_eq, Word.pv_eq, Chan.pv_eq, Target.pv_eq, P38_eq, Mount.pv_eq, P31_eq, Ns.pv_eq, eqT_9]
        refine AW.cond (b := !decide (op1.new_ = [])) rfl (fun hb38 => ?_) (fun hb38 => ?_)
        · replace h := bif_t hb38 h
          replace h := Option.bind_eq_some_iff.1 h; obtain ⟨r39, q40, h⟩ := h
          have f41 := c_F37 op1.new_ r39 q40
          try dsimp only at f41
          replace h := Option.bind_eq_some_iff.1 h; obtain ⟨out42, q43, h⟩ := h
          have f44 := appO_f q43
          try simp only [List.length_cons, List.length_nil, Nat.zero_add, Nat.reduceAdd, Nat.reduceLeDiff, Nat.add_zero, Nat.reduceMul] at f44
          refine AW.reg hS [(1, .ref 0 0), (3, .vec 1 (List.length out42))] [.var [.pv (.int .i64 op1.kind_), .pv (.int .i64 op1.flag_), .pv (.str op1.new_), .pv (.str op1.old_)], .row 9 1 (List.map PV.str out42) true] ?_ ?_
          · simp -implicitDefEqProofs only [RUNS, qindex, Nat.reduceAdd, Nat.reduceLeDiff, Nat.reduceSub, reduceIte, Nat.reduceEqDiff, Nat.reduceLT, reduceCtorEq, Nat.reduceMul, if_true, if_false, eq_self, ne_eq, env_bT, T_9, T_23, T_62, NsOp.pv_eq, Word.pv_eq, Chan.pv_eq, Target.pv_eq, P38_eq, Mount.pv_eq, P31_eq, Ns.pv_eq, pf_37, f41, f44.1, f44.2, str_all]
          exact ⟨out42, h, (Weak.norm (m := 2) (Nat.le_of_ble_eq_true rfl) ⟨rfl, rfl, trivial⟩ rfl rfl rfl)⟩
        · replace h := bif_f hb38 h
          refine AW.skip ?_
          exact ⟨out10, h, (Weak.norm (m := 2) (Nat.le_of_ble_eq_true rfl) ⟨rfl, rfl, trivial⟩ rfl rfl rfl)⟩
      · replace h := bif_f hb27 h
        refine AW.seq ?_
        refine AW.reg hS [(1, .ref 0 0), (3, .vec 1 (List.length out10)), (49, .pv (.bool (decide (op1.kind_ = 5))))] [.var [.pv (.int .i64 op1.kind_), .pv (.int .i64 op1.flag_), .pv (.str op1.new_), .pv (.str op1.old_)], .row 9 1 (List.map PV.str out10) true] ?_ ?_
        · simp -implicitDefEqProofs only [RUNS, qindex, Nat.reduceAdd, Nat.reduceLeDiff, Nat.reduceSub, reduceIte, Nat.reduceEqDiff, Nat.reduceLT, reduceCtorEq, Nat.reduceMul, if_true, if_false, eq_self, ne_eq, env_bT, T_3, NsOp.pv_eq, Word.pv_eq, Chan.pv_eq, Target.pv_eq, P38_eq, Mount.pv_eq, P31_eq, Ns.pv_eq, eqT_3]
        refine AW.cond (b := decide (op1.kind_ = 5)) rfl (fun hb45 => ?_) (fun hb45 => ?_)
        · replace h := bif_t hb45 h
          replace h := Option.bind_eq_some_iff.1 h; obtain ⟨r46, q47, h⟩ := h
          have f48 := c_F37 op1.new_ r46 q47
          try dsimp only at f48
          replace h := Option.bind_eq_some_iff.1 h; obtain ⟨out49, q50, h⟩ := h
          have f51 := appO_f q50
          try simp only [List.length_cons, List.length_nil, Nat.zero_add, Nat.reduceAdd, Nat.reduceLeDiff, Nat.add_zero, Nat.reduceMul] at f51
          refine AW.reg hS [(3, .vec 1 (List.length out49))] [.var [.pv (.int .i64 op1.kind_), .pv (.int .i64 op1.flag_), .pv (.str op1.new_), .pv (.str op1.old_)], .row 9 1 (List.map PV.str out49) true] ?_ ?_
          · simp -implicitDefEqProofs only [RUNS, qindex, Nat.reduceAdd, Nat.reduceLeDiff, Nat.reduceSub, reduceIte, Nat.reduceEqDiff, Nat.reduceLT, reduceCtorEq, Nat.reduceMul, if_true, if_false, eq_self, ne_eq, env_bT, T_9, T_23, T_62, NsOp.pv_eq, Word.pv_eq, Chan.pv_eq, Target.pv_eq, P38_eq, Mount.pv_eq, P31_eq, Ns.pv_eq, pf_37, f48, f51.1, f51.2, str_all]
          refine AW.seq ?_
          replace h := Option.bind_eq_some_iff.1 h; obtain ⟨s52, q53, h⟩ := h
          have f54 := c_L_Join out49 [32] s52 q53
          try dsimp only at f54
          try simp only [List.map_cons, List.map_nil, NsOp.pv_eq, Word.pv_eq, Chan.pv_eq, Target.pv_eq, P38_eq, Mount.pv_eq, P31_eq, Ns.pv_eq] at f54
          refine AW.reg hS [(2, .pv (.str s52))] [.var [.pv (.int .i64 op1.kind_), .pv (.int .i64 op1.flag_), .pv (.str op1.new_), .pv (.str op1.old_)], .row 9 1 (List.map PV.str out49) true] ?_ ?_
          · simp -implicitDefEqProofs only [RUNS, qindex, Nat.reduceAdd, Nat.reduceLeDiff, Nat.reduceSub, reduceIte, Nat.reduceEqDiff, Nat.reduceLT, reduceCtorEq, Nat.reduceMul, if_true, if_false, eq_self, ne_eq, env_bT, T_9, T_62, NsOp.pv_eq, Word.pv_eq, Chan.pv_eq, Target.pv_eq, P38_eq, Mount.pv_eq, P31_eq, Ns.pv_eq, pf_38, f54]
          refine AW.ret ?_
          cases h
          show finish _ _ _ _ _ = _
          first | rfl | (simp [finish, resOf, renArgs, toPV, selObjs, sl])
        · replace h := bif_f hb45 h
          refine AW.skip ?_
          refine AW.seq ?_
          replace h := Option.bind_eq_some_iff.1 h; obtain ⟨s55, q56, h⟩ := h
          have f57 := c_L_Join out10 [32] s55 q56
          try dsimp only at f57
          try simp only [List.map_cons, List.map_nil, NsOp.pv_eq, Word.pv_eq, Chan.pv_eq, Target.pv_eq, P38_eq, Mount.pv_eq, P31_eq, Ns.pv_eq] at f57
          refine AW.reg hS [(2, .pv (.str s55))] [.var [.pv (.int .i64 op1.kind_), .pv (.int .i64 op1.flag_), .pv (.str op1.new_), .pv (.str op1.old_)], .row 9 1 (List.map PV.str out10) true] ?_ ?_
          · simp -implicitDefEqProofs only [RUNS, qindex, Nat.reduceAdd, Nat.reduceLeDiff, Nat.reduceSub, reduceIte, Nat.reduceEqDiff, Nat.reduceLT, reduceCtorEq, Nat.reduceMul, if_true, if_false, eq_self, ne_eq, env_bT, T_9, T_62, NsOp.pv_eq, Word.pv_eq, Chan.pv_eq, Target.pv_eq, P38_eq, Mount.pv_eq, P31_eq, Ns.pv_eq, pf_38, f57]
          refine AW.ret ?_
          cases h
          show finish _ _ _ _ _ = _
          first | rfl | (simp [finish, resOf, renArgs, toPV, selObjs, sl])
  · replace h := bif_f hb9 h
    refine AW.skip ?_
    refine AW.seq ?_
    refine AW.seq ?_
    refine AW.reg hS [(1, .ref 0 0), (3, .full (List.map PV.str [r3])), (19, .pv (.int .i64 op1.kind_))] [.var [.pv (.int .i64 op1.kind_), .pv (.int .i64 op1.flag_), .pv (.str op1.new_), .pv (.str op1.old_)]] ?_ ?_
    · simp -implicitDefEqProofs only [RUNS, qindex, Nat.reduceAdd, Nat.reduceLeDiff, Nat.reduceSub, reduceIte, Nat.reduceEqDiff, Nat.reduceLT, reduceCtorEq, Nat.reduceMul, if_true, if_false, eq_self, ne_eq, env_bT, T_3, T_23, NsOp.pv_eq, Word.pv_eq, Chan.pv_eq, Target.pv_eq, P38_eq, Mount.pv_eq, P31_eq, Ns.pv_eq]
    refine AW.block ?_
    refine AW.seqM ⟨sl [(1, .ref 0 0), (3, .full (List.map PV.str [r3])), (19, .pv (.int .i64 op1.kind_)), (20, .pv (.bool (bif decide (op1.kind_ = 1) then decide (op1.kind_ = 1) else decide (op1.kind_ = 2))))], 59, [.var [.pv (.int .i64 op1.kind_), .pv (.int .i64 op1.flag_), .pv (.str op1.new_), .pv (.str op1.old_)]]⟩ ?_ ?_
    · refine AW.seq ?_
      refine AW.reg hS [(1, .ref 0 0), (3, .full (List.map PV.str [r3])), (19, .pv (.int .i64 op1.kind_)), (20, .pv (.bool (decide (op1.kind_ = 1))))] [.var [.pv (.int .i64 op1.kind_), .pv (.int .i64 op1.flag_), .pv (.str op1.new_), .pv (.str op1.old_)]] ?_ ?_
      · simp -implicitDefEqProofs only [RUNS, qindex, Nat.reduceAdd, Nat.reduceLeDiff, Nat.reduceSub, reduceIte, Nat.reduceEqDiff, Nat.reduceLT, reduceCtorEq, Nat.reduceMul, if_true, if_false, eq_self, ne_eq, env_bT, T_3, NsOp.pv_eq, Word.pv_eq, Chan.pv_eq, Target.pv_eq, P38_eq, Mount.pv_eq, P31_eq, Ns.pv_eq, eqT_3]
      refine AW.cond (b := decide (op1.kind_ = 1)) rfl (fun hb58 => ?_) (fun hb58 => ?_)
      · refine AW.skip ?_
        exact Weak.of_eq (Weak.slots (L := [(1, .ref 0 0), (3, .full (List.map PV.str [r3])), (19, .pv (.int .i64 op1.kind_)), (20, .pv (.bool (decide (op1.kind_ = 1))))]) ⟨rfl, rfl, rfl, rfl, trivial⟩) (by simp only [hb58, cond_true, cond_false, Bool.true_or, Bool.false_or, Bool.true_and, Bool.false_and, Bool.or_true, Bool.or_false, Bool.and_true, Bool.and_false, Bool.not_true, Bool.not_false])
      · refine AW.reg hS [(1, .ref 0 0), (3, .full (List.map PV.str [r3])), (19, .pv (.int .i64 op1.kind_)), (20, .pv (.bool (decide (op1.kind_ = 2))))] [.var [.pv (.int .i64 op1.kind_), .pv (.int .i64 op1.flag_), .pv (.str op1.new_), .pv (.str op1.old_)]] ?_ ?_
        · simp -implicitDefEqProofs only [RUNS, qindex, Nat.reduceAdd, Nat.reduceLeDiff, Nat.reduceSub, reduceIte, Nat.reduceEqDiff, Nat.reduceLT, reduceCtorEq, Nat.reduceMul, if_true, if_false, eq_self, ne_eq, env_bT, T_3, NsOp.pv_eq, Word.pv_eq, Chan.pv_eq, Target.pv_eq, P38_eq, Mount.pv_eq, P31_eq, Ns.pv_eq, eqT_3]
        exact Weak.of_eq (Weak.slots (L := [(1, .ref 0 0), (3, .full (List.map PV.str [r3])), (19, .pv (.int .i64 op1.kind_)), (20, .pv (.bool (decide (op1.kind_ = 2))))]) ⟨rfl, rfl, rfl, rfl, trivial⟩) (by simp only [hb58, cond_true, cond_false, Bool.true_or, Bool.false_or, Bool.true_and, Bool.false_and, Bool.or_true, Bool.or_false, Bool.and_true, Bool.and_false, Bool.not_true, Bool.not_false])
    refine AW.cond (b := (bif decide (op1.kind_ = 1) then decide (op1.kind_ = 1) else decide (op1.kind_ = 2))) rfl (fun hb59 => ?_) (fun hb59 => ?_)
    · replace h := bif_t hb59 h
      replace h := Option.bind_eq_some_iff.1 h; obtain ⟨r60, q61, h⟩ := h
      have f62 := c_F37 op1.new_ r60 q61
      try dsimp only at f62
      replace h := Option.bind_eq_some_iff.1 h; obtain ⟨r63, q64, h⟩ := h
      have f65 := c_F37 op1.old_ r63 q64
      try dsimp only at f65
      replace h := Option.bind_eq_some_iff.1 h; obtain ⟨out66, q67, h⟩ := h
      have f68 := appO_f q67
      try simp only [List.length_cons, List.length_nil, Nat.zero_add, Nat.reduceAdd, Nat.reduceLeDiff, Nat.add_zero, Nat.reduceMul] at f68
      refine AW.dreg mixed hS (hpf ▸ (by kernel_rfl : orderOK pfn _ = true)) [(3, .vec 1 (List.length out66))] [.var [.pv (.int .i64 op1.kind_), .pv (.int .i64 op1.flag_), .pv (.str op1.new_), .pv (.str op1.old_)], .row 9 1 (List.map PV.str out66) true] ?_ ?_
      · simp -implicitDefEqProofs only [RUNS, qindex, Nat.reduceAdd, Nat.reduceLeDiff, Nat.reduceSub, reduceIte, Nat.reduceEqDiff, Nat.reduceLT, reduceCtorEq, Nat.reduceMul, if_true, if_false, eq_self, ne_eq, env_bT, T_9, T_23, T_62, NsOp.pv_eq, Word.pv_eq, Chan.pv_eq, Target.pv_eq, P38_eq, Mount.pv_eq, P31_eq, Ns.pv_eq, pf_37, f62, f65, f68.1, f68.2, str_all]
      refine AW.seq ?_
      replace h := Option.bind_eq_some_iff.1 h; obtain ⟨s69, q70, h⟩ := h
      have f71 := c_L_Join out66 [32] s69 q70
      try dsimp only at f71
      try simp only [List.map_cons, List.map_nil, NsOp.pv_eq, Word.pv_eq, Chan.pv_eq, Target.pv_eq, P38_eq, Mount.pv_eq, P31_eq, Ns.pv_eq] at f71
      refine AW.reg hS [(2, .pv (.str s69))] [.var [.pv (.int .i64 op1.kind_), .pv (.int .i64 op1.flag_), .pv (.str op1.new_), .pv (.str op1.old_)], .row 9 1 (List.map PV.str out66) true] ?_ ?_
      · simp -implicitDefEqProofs only [RUNS, qindex, Nat.reduceAdd, Nat.reduceLeDiff, Nat.reduceSub, reduceIte, Nat.reduceEqDiff, Nat.reduceLT, reduceCtorEq, Nat.reduceMul, if_true, if_false, eq_self, ne_eq, env_bT, T_9, T_62, NsOp.pv_eq, Word.pv_eq, Chan.pv_eq, Target.pv_eq, P38_eq, Mount.pv_eq, P31_eq, Ns.pv_eq, pf_38, f71]
      refine AW.ret ?_
      cases h
      show finish _ _ _ _ _ = _
      first | rfl | (simp [finish, resOf, renArgs, toPV, selObjs, sl])
    · replace h := bif_f hb59 h
      refine AW.seq ?_
      refine AW.reg hS [(1, .ref 0 0), (3, .full (List.map PV.str [r3])), (19, .pv (.int .i64 op1.kind_)), (32, .pv (.bool (decide (op1.kind_ = 3))))] [.var [.pv (.int .i64 op1.kind_), .pv (.int .i64 op1.flag_), .pv (.str op1.new_), .pv (.str op1.old_)]] ?_ ?_
      · simp -implicitDefEqProofs only [RUNS, qindex, Nat.reduceAdd, Nat.reduceLeDiff, Nat.reduceSub, reduceIte, Nat.reduceEqDiff, Nat.reduceLT, reduceCtorEq, Nat.reduceMul, if_true, if_false, eq_self, ne_eq, env_bT, T_3, NsOp.pv_eq, Word.pv_eq, Chan.pv_eq, Target.pv_eq, P38_eq, Mount.pv_eq, P31_eq, Ns.pv_eq, eqT_3]
      refine AW.cond (b := decide (op1.kind_ = 3)) rfl (fun hb72 => ?_) (fun hb72 => ?_)
      · replace h := bif_t hb72 h
        refine AW.seq ?_
        refine AW.seq ?_
        refine AW.reg hS [(1, .ref 0 0), (3, .full (List.map PV.str [r3])), (36, .pv (.bool (!decide (op1.new_ = []))))] [.var [.pv (.int .i64 op1.kind_), .pv (.int .i64 op1.flag_), .pv (.str op1.new_), .pv (.str op1.old_)]] ?_ ?_
        · simp -implicitDefEqProofs only [RUNS, qindex, Nat.reduceAdd, Nat.reduceLeDiff, Nat.reduceSub, reduceIte, Nat.reduceEqDiff, Nat.reduceLT, reduceCtorEq, Nat.reduceMul, if_true, if_false, eq_self, ne_eq, env_bT, T_9, T_23, NsOp.pv_eq, Word.pv_eq, Chan.pv_eq, Target.pv_eq, P38_eq, Mount.pv_eq, P31_eq, Ns.pv_eq, eqT_9]
        refine AW.cond (b := !decide (op1.new_ = [])) rfl (fun hb73 => ?_) (fun hb73 => ?_)
        · replace h := bif_t hb73 h
          replace h := Option.bind_eq_some_iff.1 h; obtain ⟨r74, q75, h⟩ := h
          have f76 := c_F37 op1.new_ r74 q75
          try dsimp only at f76
          replace h := Option.bind_eq_some_iff.1 h; obtain ⟨out77, q78, h⟩ := h
          have f79 := appO_f q78
          try simp only [List.length_cons, List.length_nil, Nat.zero_add, Nat.reduceAdd, Nat.reduceLeDiff, Nat.add_zero, Nat.reduceMul] at f79
          refine AW.reg hS [(1, .ref 0 0), (3, .vec 1 (List.length out77))] [.var [.pv (.int .i64 op1.kind_), .pv (.int .i64 op1.flag_), .pv (.str op1.new_), .pv (.str op1.old_)], .row 9 1 (List.map PV.str out77) true] ?_ ?_
          · simp -implicitDefEqProofs only [RUNS, qindex, Nat.reduceAdd, Nat.reduceLeDiff, Nat.reduceSub, reduceIte, Nat.reduceEqDiff, Nat.reduceLT, reduceCtorEq, Nat.reduceMul, if_true, if_false, eq_self, ne_eq, env_bT, T_9, T_23, T_62, NsOp.pv_eq, Word.pv_eq, Chan.pv_eq, Target.pv_eq, P38_eq, Mount.pv_eq, P31_eq, Ns.pv_eq, pf_37, f76, f79.1, f79.2, str_all]
          replace h := Option.bind_eq_some_iff.1 h; obtain ⟨r80, q81, h⟩ := h
          have f82 := c_F37 op1.old_ r80 q81
          try dsimp only at f82
          replace h := Option.bind_eq_some_iff.1 h; obtain ⟨out83, q84, h⟩ := h
          have f85 := appO_f q84
          try simp only [List.length_cons, List.length_nil, Nat.zero_add, Nat.reduceAdd, Nat.reduceLeDiff, Nat.add_zero, Nat.reduceMul] at f85
          refine AW.reg hS [(3, .vec 1 (List.length out83))] [.var [.pv (.int .i64 op1.kind_), .pv (.int .i64 op1.flag_), .pv (.str op1.new_), .pv (.str op1.old_)], .row 9 1 (List.map PV.str out83) true] ?_ ?_
          · simp -implicitDefEqProofs only [RUNS, qindex, Nat.reduceAdd, Nat.reduceLeDiff, Nat.reduceSub, reduceIte, Nat.reduceEqDiff, Nat.reduceLT, reduceCtorEq, Nat.reduceMul, if_true, if_false, eq_self, ne_eq, env_bT, T_9, T_23, T_62, NsOp.pv_eq, Word.pv_eq, Chan.pv_eq, Target.pv_eq, P38_eq, Mount.pv_eq, P31_eq, Ns.pv_eq, pf_37, f82, f85.1, f85.2, str_all]
          refine AW.seq ?_
          replace h := Option.bind_eq_some_iff.1 h; obtain ⟨s86, q87, h⟩ := h
          have f88 := c_L_Join out83 [32] s86 q87
          try dsimp only at f88
          try simp only [List.map_cons, List.map_nil, NsOp.pv_eq, Word.pv_eq, Chan.pv_eq, Target.pv_eq, P38_eq, Mount.pv_eq, P31_eq, Ns.pv_eq] at f88
          refine AW.reg hS [(2, .pv (.str s86))] [.var [.pv (.int .i64 op1.kind_), .pv (.int .i64 op1.flag_), .pv (.str op1.new_), .pv (.str op1.old_)], .row 9 1 (List.map PV.str out83) true] ?_ ?_
          · simp -implicitDefEqProofs only [RUNS, qindex, Nat.reduceAdd, Nat.reduceLeDiff, Nat.reduceSub, reduceIte, Nat.reduceEqDiff, Nat.reduceLT, reduceCtorEq, Nat.reduceMul, if_true, if_false, eq_self, ne_eq, env_bT, T_9, T_62, NsOp.pv_eq, Word.pv_eq, Chan.pv_eq, Target.pv_eq, P38_eq, Mount.pv_eq, P31_eq, Ns.pv_eq, pf_38, f88]
          refine AW.ret ?_
          cases h
          show finish _ _ _ _ _ = _
          first | rfl | (simp [finish, resOf, renArgs, toPV, selObjs, sl])
        · replace h := bif_f hb73 h
          refine AW.skip ?_
          replace h := Option.bind_eq_some_iff.1 h; obtain ⟨r89, q90, h⟩ := h
          have f91 := c_F37 op1.old_ r89 q90
          try dsimp only at f91
          replace h := Option.bind_eq_some_iff.1 h; obtain ⟨out92, q93, h⟩ := h
          have f94 := appO_f q93
          try simp only [List.length_cons, List.length_nil, Nat.zero_add, Nat.reduceAdd, Nat.reduceLeDiff, Nat.add_zero, Nat.reduceMul] at f94
          refine AW.reg hS [(3, .vec 1 (List.length out92))] [.var [.pv (.int .i64 op1.kind_), .pv (.int .i64 op1.flag_), .pv (.str op1.new_), .pv (.str op1.old_)], .row 9 1 (List.map PV.str out92) true] ?_ ?_
          · simp -implicitDefEqProofs only [RUNS, qindex, Nat.reduceAdd, Nat.reduceLeDiff, Nat.reduceSub, reduceIte, Nat.reduceEqDiff, Nat.reduceLT, reduceCtorEq, Nat.reduceMul, if_true, if_false, eq_self, ne_eq, env_bT, T_9, T_23, T_62, NsOp.pv_eq, Word.pv_eq, Chan.pv_eq, Target.pv_eq, P38_eq, Mount.pv_eq, P31_eq, Ns.pv_eq, pf_37, f91, f94.1, f94.2, str_all]
          refine AW.seq ?_
          replace h := Option.bind_eq_some_iff.1 h; obtain ⟨s95, q96, h⟩ := h
          have f97 := c_L_Join out92 [32] s95 q96
          try dsimp only at f97
          try simp only [List.map_cons, List.map_nil, NsOp.pv_eq, Word.pv_eq, Chan.pv_eq, Target.pv_eq, P38_eq, Mount.pv_eq, P31_eq, Ns.pv_eq] at f97
          refine AW.reg hS [(2, .pv (.str s95))] [.var [.pv (.int .i64 op1.kind_), .pv (.int .i64 op1.flag_), .pv (.str op1.new_), .pv (.str op1.old_)], .row 9 1 (List.map PV.str out92) true] ?_ ?_
          · simp -implicitDefEqProofs only [RUNS, qindex, Nat.reduceAdd, Nat.reduceLeDiff, Nat.reduceSub, reduceIte, Nat.reduceEqDiff, Nat.reduceLT, reduceCtorEq, Nat.reduceMul, if_true, if_false, eq_self, ne_eq, env_bT, T_9, T_62, NsOp.pv_eq, Word.pv_eq, Chan.pv_eq, Target.pv_eq, P38_eq, Mount.pv_eq, P31_eq, Ns.pv_eq, pf_38, f97]
          refine AW.ret ?_
          cases h
          show finish _ _ _ _ _ = _
          first | rfl | (simp [finish, resOf, renArgs, toPV, selObjs, sl])
      · replace h := bif_f hb72 h
        refine AW.seq ?_
        refine AW.reg hS [(1, .ref 0 0), (3, .full (List.map PV.str [r3])), (49, .pv (.bool (decide (op1.kind_ = 5))))] [.var [.pv (.int .i64 op1.kind_), .pv (.int .i64 op1.flag_), .pv (.str op1.new_), .pv (.str op1.old_)]] ?_ ?_
        · simp -implicitDefEqProofs only [RUNS, qindex, Nat.reduceAdd, Nat.reduceLeDiff, Nat.reduceSub, reduceIte, Nat.reduceEqDiff, Nat.reduceLT, reduceCtorEq, Nat.reduceMul, if_true, if_false, eq_self, ne_eq, env_bT, T_3, NsOp.pv_eq, Word.pv_eq, Chan.pv_eq, Target.pv_eq, P38_eq, Mount.pv_eq, P31_eq, Ns.pv_eq, eqT_3]
        refine AW.cond (b := decide (op1.kind_ = 5)) rfl (fun hb98 => ?_) (fun hb98 => ?_)
        · replace h := bif_t hb98 h
          replace h := Option.bind_eq_some_iff.1 h; obtain ⟨r99, q100, h⟩ := h
          have f101 := c_F37 op1.new_ r99 q100
          try dsimp only at f101
          replace h := Option.bind_eq_some_iff.1 h; obtain ⟨out102, q103, h⟩ := h
          have f104 := appO_f q103
          try simp only [List.length_cons, List.length_nil, Nat.zero_add, Nat.reduceAdd, Nat.reduceLeDiff, Nat.add_zero, Nat.reduceMul] at f104
          refine AW.reg hS [(3, .vec 1 (List.length out102))] [.var [.pv (.int .i64 op1.kind_), .pv (.int .i64 op1.flag_), .pv (.str op1.new_), .pv (.str op1.old_)], .row 9 1 (List.map PV.str out102) true] ?_ ?_
          · simp -implicitDefEqProofs only [RUNS, qindex, Nat.reduceAdd, Nat.reduceLeDiff, Nat.reduceSub, reduceIte, Nat.reduceEqDiff, Nat.reduceLT, reduceCtorEq, Nat.reduceMul, if_true, if_false, eq_self, ne_eq, env_bT, T_9, T_23, T_62, NsOp.pv_eq, Word.pv_eq, Chan.pv_eq, Target.pv_eq, P38_eq, Mount.pv_eq, P31_eq, Ns.pv_eq, pf_37, f101, f104.1, f104.2, str_all]
          refine AW.seq ?_
          replace h := Option.bind_eq_some_iff.1 h; obtain ⟨s105, q106, h⟩ := h
          have f107 := c_L_Join out102 [32] s105 q106
          try dsimp only at f107
          try simp only [List.map_cons, List.map_nil, NsOp.pv_eq, Word.pv_eq, Chan.pv_eq, Target.pv_eq, P38_eq, Mount.pv_eq, P31_eq, Ns.pv_eq] at f107
          refine AW.reg hS [(2, .pv (.str s105))] [.var [.pv (.int .i64 op1.kind_), .pv (.int .i64 op1.flag_), .pv (.str op1.new_), .pv (.str op1.old_)], .row 9 1 (List.map PV.str out102) true] ?_ ?_
          · simp -implicitDefEqProofs only [RUNS, qindex, Nat.reduceAdd, Nat.reduceLeDiff, Nat.reduceSub, reduceIte, Nat.reduceEqDiff, Nat.reduceLT, reduceCtorEq, Nat.reduceMul, if_true, if_false, eq_self, ne_eq, env_bT, T_9, T_62, NsOp.pv_eq, Word.pv_eq, Chan.pv_eq, Target.pv_eq, P38_eq, Mount.pv_eq, P31_eq, Ns.pv_eq, pf_38, f107]
          refine AW.ret ?_
          cases h
          show finish _ _ _ _ _ = _
          first | rfl | (simp [finish, resOf, renArgs, toPV, selObjs, sl])
        · replace h := bif_f hb98 h
          refine AW.skip ?_
          refine AW.seq ?_
          replace h := Option.bind_eq_some_iff.1 h; obtain ⟨s108, q109, h⟩ := h
          have f110 := c_L_Join [r3] [32] s108 q109
          try dsimp only at f110
          try simp only [List.map_cons, List.map_nil, NsOp.pv_eq, Word.pv_eq, Chan.pv_eq, Target.pv_eq, P38_eq, Mount.pv_eq, P31_eq, Ns.pv_eq] at f110
          refine AW.reg hS [(2, .pv (.str s108))] [.var [.pv (.int .i64 op1.kind_), .pv (.int .i64 op1.flag_), .pv (.str op1.new_), .pv (.str op1.old_)]] ?_ ?_
          · simp -implicitDefEqProofs only [RUNS, qindex, Nat.reduceAdd, Nat.reduceLeDiff, Nat.reduceSub, reduceIte, Nat.reduceEqDiff, Nat.reduceLT, reduceCtorEq, Nat.reduceMul, if_true, if_false, eq_self, ne_eq, env_bT, T_9, T_62, NsOp.pv_eq, Word.pv_eq, Chan.pv_eq, Target.pv_eq, P38_eq, Mount.pv_eq, P31_eq, Ns.pv_eq, pf_38, f110]
          refine AW.ret ?_
          cases h
          show finish _ _ _ _ _ = _
          first | rfl | (simp [finish, resOf, renArgs, toPV, selObjs, sl])

set_option maxHeartbeats 4000000 in
theorem g_F10 {O : Orc} (hS : Sound env O) (hpf : O.pf = pfn) (c_F22 : C_F22 O) (c_F23 : C_F23 O) (op1 : NsOp) (r2 : Str) (r3 : Int) (h : F10 op1 = some (r2, r3)) : Good env 10 [.pv (.agg [.int .i64 op1.kind_, .int .i64 op1.flag_, .str op1.new_, .str op1.old_])] [] [.pv (.str r2), .pv (.int .i64 r3)] [] := by
  have pf_22 : O.pf 22 = true := by rw [hpf]; rfl
  have pf_23 : O.pf 23 = true := by rw [hpf]; rfl
  refine Good.start (fn := Tryd.f10) (N := 9) rfl rfl rfl (by simp) [] _ rfl rfl ?_
  rw [F10] at h
  refine AW.seq ?_
  refine AW.reg hS [(1, .ref 0 0)] [.var [.pv (.int .i64 op1.kind_), .pv (.int .i64 op1.flag_), .pv (.str op1.new_), .pv (.str op1.old_)]] ?_ ?_
  · simp -implicitDefEqProofs only [RUNS, qindex, Nat.reduceAdd, Nat.reduceLeDiff, Nat.reduceSub, reduceIte, Nat.reduceEqDiff, Nat.reduceLT, reduceCtorEq, Nat.reduceMul, if_true, if_false, eq_self, ne_eq, env_bT, T_23, NsOp.pv_eq, Word.pv_eq, Chan.pv_eq, Target.pv_eq, P38_eq, Mount.pv_eq, P31_eq, Ns.pv_eq]
  refine AW.seq ?_
  refine AW.seq ?_
  replace h := Option.bind_eq_some_iff.1 h; obtain ⟨r4, q5, h⟩ := h
  have f6 := c_F22 op1 r4 q5
  try dsimp only at f6
  refine AW.reg hS [(1, .ref 0 0), (6, .pv (.bool (!r4)))] [.var [.pv (.int .i64 op1.kind_), .pv (.int .i64 op1.flag_), .pv (.str op1.new_), .pv (.str op1.old_)]] ?_ ?_
  · simp -implicitDefEqProofs only [RUNS, qindex, Nat.reduceAdd, Nat.reduceLeDiff, Nat.reduceSub, reduceIte, Nat.reduceEqDiff, Nat.reduceLT, reduceCtorEq, Nat.reduceMul, if_true, if_false, eq_self, ne_eq, env_bT, T_23, NsOp.pv_eq, Word.pv_eq, Chan.pv_eq, Target.pv_eq, P38_eq, Mount.pv_eq, P31_eq, Ns.pv_eq, pf_22, f6]
  refine AW.cond (b := !r4) rfl (fun hb7 => ?_) (fun hb7 => ?_)
  · replace h := bif_t hb7 h
    refine AW.seq ?_
    refine AW.reg hS [(2, .pv (.str [])), (3, .pv (.int .i64 1))] [.var [.pv (.int .i64 op1.kind_), .pv (.int .i64 op1.flag_), .pv (.str op1.new_), .pv (.str op1.old_)]] ?_ ?_
    · simp -implicitDefEqProofs only [RUNS, qindex, Nat.reduceAdd, Nat.reduceLeDiff, Nat.reduceSub, reduceIte, Nat.reduceEqDiff, Nat.reduceLT, reduceCtorEq, Nat.reduceMul, if_true, if_false, eq_self, ne_eq, env_bT, NsOp.pv_eq, Word.pv_eq, Chan.pv_eq, Target.pv_eq, P38_eq, Mount.pv_eq, P31_eq, Ns.pv_eq]
    refine AW.ret ?_
    cases h
    show finish _ _ _ _ _ = _
    first | rfl | (simp [finish, resOf, renArgs, toPV, selObjs, sl])
  · replace h := bif_f hb7 h
    refine AW.skip ?_
    refine AW.seq ?_
    replace h := Option.bind_eq_some_iff.1 h; obtain ⟨r8, q9, h⟩ := h
    have f10 := c_F23 op1 r8 q9
    try dsimp only at f10
    refine AW.reg hS [(2, .pv (.str r8)), (3, .pv (.int .i64 0))] [.var [.pv (.int .i64 op1.kind_), .pv (.int .i64 op1.flag_), .pv (.str op1.new_), .pv (.str op1.old_)]] ?_ ?_
    · simp -implicitDefEqProofs only [RUNS, qindex, Nat.reduceAdd, Nat.reduceLeDiff, Nat.reduceSub, reduceIte, Nat.reduceEqDiff, Nat.reduceLT, reduceCtorEq, Nat.reduceMul, if_true, if_false, eq_self, ne_eq, env_bT, T_23, NsOp.pv_eq, Word.pv_eq, Chan.pv_eq, Target.pv_eq, P38_eq, Mount.pv_eq, P31_eq, Ns.pv_eq, pf_23, f10]
    refine AW.ret ?_
    cases h
    show finish _ _ _ _ _ = _
    first | rfl | (simp [finish, resOf, renArgs, toPV, selObjs, sl])

set_option maxHeartbeats 4000000 in
theorem g_F42 {O : Orc} (hS : Sound env O) (hpf : O.pf = pfn) (s1 : Str) (r2 : Str) (r3 : Int) (r4 : Bool) (h : F42 s1 = some (r2, r3, r4)) : Good env 42 [.pv (.str s1)] [] [.pv (.str r2), .pv (.int .i64 r3), .pv (.bool r4)] [] := by
  refine Good.start (fn := Tryd.f42) (N := 41) rfl rfl rfl (by simp) [] _ rfl rfl ?_
  rw [F42] at h
  refine AW.seq ?_
  refine AW.reg hS [(0, .pv (.str s1))] [] ?_ ?_
  · simp -implicitDefEqProofs only [RUNS, qindex, Nat.reduceAdd, Nat.reduceLeDiff, Nat.reduceSub, reduceIte, Nat.reduceEqDiff, Nat.reduceLT, reduceCtorEq, Nat.reduceMul, if_true, if_false, eq_self, ne_eq, env_bT, NsOp.pv_eq, Word.pv_eq, Chan.pv_eq, Target.pv_eq, P38_eq, Mount.pv_eq, P31_eq, Ns.pv_eq]
  refine AW.seq ?_
  refine AW.reg hS [(0, .pv (.str s1)), (5, .pv (.str []))] [] ?_ ?_
  · simp -implicitDefEqProofs only [RUNS, qindex, Nat.reduceAdd, Nat.reduceLeDiff, Nat.reduceSub, reduceIte, Nat.reduceEqDiff, Nat.reduceLT, reduceCtorEq, Nat.reduceMul, if_true, if_false, eq_self, ne_eq, env_bT, NsOp.pv_eq, Word.pv_eq, Chan.pv_eq, Target.pv_eq, P38_eq, Mount.pv_eq, P31_eq, Ns.pv_eq]
  refine AW.seq ?_
  refine AW.seq ?_
  refine AW.reg hS [(0, .pv (.str s1)), (5, .pv (.str [])), (6, .pv (.int .i64 0))] [] ?_ ?_
  · simp -implicitDefEqProofs only [RUNS, qindex, Nat.reduceAdd, Nat.reduceLeDiff, Nat.reduceSub, reduceIte, Nat.reduceEqDiff, Nat.reduceLT, reduceCtorEq, Nat.reduceMul, if_true, if_false, eq_self, ne_eq, env_bT, NsOp.pv_eq, Word.pv_eq, Chan.pv_eq, Target.pv_eq, P38_eq, Mount.pv_eq, P31_eq, Ns.pv_eq]
  refine AW.block ?_
  refine AW.weak (Weak.slots (L := [(0, .pv (.str s1)), (5, .pv (.str [])), (6, .pv (.int .i64 0))]) ⟨rfl, rfl, rfl, trivial⟩) ?_
  refine AW.loopI (α := Nat × Str × Int) (fun (_, text5, i6) => ⟨sl [(0, .pv (.str s1)), (5, .pv (.str text5)), (6, .pv (.int .i64 i6))], 41, []⟩) (fun x => iter (F42_b1 s1) x.1 x.2 = some (r2, r3, r4)) (fun x => x.1) (BIG, ([], 0)) h ?_
  clear h
  intro ⟨n31, text5, i6⟩ h
  replace h := iter_some h; obtain ⟨m9, rfl, h⟩ := h
  rw [F42_b1] at h
  try dsimp only at h
  show AW _ _ _ _ ⟨sl [(0, .pv (.str s1)), (5, .pv (.str text5)), (6, .pv (.int .i64 i6))], 41, []⟩
  refine AW.seq ?_
  refine AW.seq ?_
  refine AW.reg hS [(0, .pv (.str s1)), (5, .pv (.str text5)), (6, .pv (.int .i64 i6)), (10, .pv (.bool (decide (i6 < (s1.length : Int)))))] [] ?_ ?_
  · simp -implicitDefEqProofs only [RUNS, qindex, Nat.reduceAdd, Nat.reduceLeDiff, Nat.reduceSub, reduceIte, Nat.reduceEqDiff, Nat.reduceLT, reduceCtorEq, Nat.reduceMul, if_true, if_false, eq_self, ne_eq, env_bT, T_3, T_9, NsOp.pv_eq, Word.pv_eq, Chan.pv_eq, Target.pv_eq, P38_eq, Mount.pv_eq, P31_eq, Ns.pv_eq, eqT_3]
  refine AW.cond (b := decide (i6 < (s1.length : Int))) rfl (fun hb10 => ?_) (fun hb10 => ?_)
  · replace h := bif_t hb10 h
    refine AW.skip ?_
    refine AW.seq ?_
    refine AW.block ?_
    refine AW.seq ?_
    refine AW.seq ?_
    replace h := Option.bind_eq_some_iff.1 h; obtain ⟨c11, q12, h⟩ := h
    have f13 := sidx_f q12
    refine AW.reg hS [(0, .pv (.str s1)), (5, .pv (.str text5)), (6, .pv (.int .i64 i6)), (16, .pv (.bool (decide (c11 = 39))))] [] ?_ ?_
    · simp -implicitDefEqProofs only [RUNS, qindex, Nat.reduceAdd, Nat.reduceLeDiff, Nat.reduceSub, reduceIte, Nat.reduceEqDiff, Nat.reduceLT, reduceCtorEq, Nat.reduceMul, if_true, if_false, eq_self, ne_eq, env_bT, T_5, T_9, NsOp.pv_eq, Word.pv_eq, Chan.pv_eq, Target.pv_eq, P38_eq, Mount.pv_eq, P31_eq, Ns.pv_eq, f13.1, f13.2.1, f13.2.2, eqT_5]
    refine AW.cond (b := decide (c11 = 39)) rfl (fun hb14 => ?_) (fun hb14 => ?_)
    · replace h := bif_t hb14 h
      refine AW.seq ?_
      refine AW.seq ?_
      replace h := Option.bind_eq_some_iff.1 h; obtain ⟨c15, q16, h⟩ := h
      have f17 := sidx_g (guardO_t q16)
      refine AW.reg hS [(0, .pv (.str s1)), (5, .pv (.str text5)), (6, .pv (.int .i64 i6)), (28, .pv (.bool (decide (IntKind.wrap .i64 (i6 + 1) = (s1.length : Int)) || !decide (c15 = 39))))] [] ?_ ?_
      · clear h
        (simp -implicitDefEqProofs only [RUNS, qindex, Nat.reduceAdd, Nat.reduceLeDiff, Nat.reduceSub, reduceIte, Nat.reduceEqDiff, Nat.reduceLT, reduceCtorEq, Nat.reduceMul, if_true, if_false, eq_self, ne_eq, env_bT, T_3, T_5, T_9, NsOp.pv_eq, Word.pv_eq, Chan.pv_eq, Target.pv_eq, P38_eq, Mount.pv_eq, P31_eq, Ns.pv_eq, eqT_3, f17.1, f17.2.1, f17.2.2, eqT_5]); repeat' (split <;> rename_i hb <;> (try simp only [HBS, ge_iff_le, gt_iff_lt] at hb) <;> simp -implicitDefEqProofs only [RUNS, qindex, Nat.reduceAdd, Nat.reduceLeDiff, Nat.reduceSub, reduceIte, Nat.reduceEqDiff, Nat.reduceLT, reduceCtorEq, Nat.reduceMul, if_true, if_false, eq_self, ne_eq, env_bT, T_3, T_5, T_9, NsOp.pv_eq, Word.pv_eq, Chan.pv_eq, Target.pv_eq, P38_eq, Mount.pv_eq, P31_eq, Ns.pv_eq, eqT_3, f17.1, f17.2.1, f17.2.2, eqT_5, *, decide_true, decide_false, Decidable.not_not, not_false_eq_true, not_true_eq_false])
        all_goals (first | (simp only [BOOLS]; done) | (simp [*]; done) | ((try simp only [CLOS, beq_iff_eq, bne_iff_ne, ne_eq] at *) <;> omega) | (simp_all; done) | (simp_all <;> omega))
      refine AW.cond (b := (decide (IntKind.wrap .i64 (i6 + 1) = (s1.length : Int)) || !decide (c15 = 39))) rfl (fun hb18 => ?_) (fun hb18 => ?_)
      · replace h := bif_t hb18 h
        refine AW.seq ?_
        refine AW.reg hS [(2, .pv (.str text5)), (3, .pv (.int .i64 (IntKind.wrap .i64 (i6 + 1)))), (4, .pv (.bool true))] [] ?_ ?_
        · simp -implicitDefEqProofs only [RUNS, qindex, Nat.reduceAdd, Nat.reduceLeDiff, Nat.reduceSub, reduceIte, Nat.reduceEqDiff, Nat.reduceLT, reduceCtorEq, Nat.reduceMul, if_true, if_false, eq_self, ne_eq, env_bT, T_3, NsOp.pv_eq, Word.pv_eq, Chan.pv_eq, Target.pv_eq, P38_eq, Mount.pv_eq, P31_eq, Ns.pv_eq, eqT_3]
        refine AW.ret ?_
        cases h
        show finish _ _ _ _ _ = _
        first | rfl | (simp [finish, resOf, renArgs, toPV, selObjs, sl])
      · replace h := bif_f hb18 h
        refine AW.skip ?_
        refine AW.reg hS [(0, .pv (.str s1)), (5, .pv (.str text5)), (6, .pv (.int .i64 (IntKind.wrap .i64 (i6 + 1))))] [] ?_ ?_
        · simp -implicitDefEqProofs only [RUNS, qindex, Nat.reduceAdd, Nat.reduceLeDiff, Nat.reduceSub, reduceIte, Nat.reduceEqDiff, Nat.reduceLT, reduceCtorEq, Nat.reduceMul, if_true, if_false, eq_self, ne_eq, env_bT, T_3, NsOp.pv_eq, Word.pv_eq, Chan.pv_eq, Target.pv_eq, P38_eq, Mount.pv_eq, P31_eq, Ns.pv_eq, eqT_3]
        replace h := Option.bind_eq_some_iff.1 h; obtain ⟨t19, q20, h⟩ := h
        have f21 := sslice_f q20
        have f21e := f21.2.2.2.2
        try simp only [Int.toNat_natCast, Int.toNat_zero, List.drop_zero] at f21e
        have f21l := f21.2.2.1
        try simp only [Int.toNat_natCast, Int.toNat_zero] at f21l
        replace h := Option.bind_eq_some_iff.1 h; obtain ⟨s22, q23, h⟩ := h
        have f24 := catO_f q23
        try simp only [List.length_cons, List.length_nil, Nat.zero_add, Nat.reduceAdd, Nat.reduceLeDiff, Nat.add_zero, Nat.reduceMul] at f24
        refine AW.reg hS [(0, .pv (.str s1)), (5, .pv (.str s22)), (6, .pv (.int .i64 (IntKind.wrap .i64 (i6 + 1))))] [] ?_ ?_
        · simp -implicitDefEqProofs only [RUNS, qindex, Nat.reduceAdd, Nat.reduceLeDiff, Nat.reduceSub, reduceIte, Nat.reduceEqDiff, Nat.reduceLT, reduceCtorEq, Nat.reduceMul, if_true, if_false, eq_self, ne_eq, env_bT, T_3, T_9, NsOp.pv_eq, Word.pv_eq, Chan.pv_eq, Target.pv_eq, P38_eq, Mount.pv_eq, P31_eq, Ns.pv_eq, eqT_3, f21.1, f21.2.1, f21l, f21.2.2.2.1, f21e, Int.toNat_natCast, Int.toNat_zero, eqT_9, f24.1, f24.2]
        refine AW.reg hS [(0, .pv (.str s1)), (5, .pv (.str s22)), (6, .pv (.int .i64 (IntKind.wrap .i64 ((IntKind.wrap .i64 (i6 + 1)) + 1))))] [] ?_ ?_
        · simp -implicitDefEqProofs only [RUNS, qindex, Nat.reduceAdd, Nat.reduceLeDiff, Nat.reduceSub, reduceIte, Nat.reduceEqDiff, Nat.reduceLT, reduceCtorEq, Nat.reduceMul, if_true, if_false, eq_self, ne_eq, env_bT, T_3, NsOp.pv_eq, Word.pv_eq, Chan.pv_eq, Target.pv_eq, P38_eq, Mount.pv_eq, P31_eq, Ns.pv_eq, eqT_3]
        exact ⟨(m9, (s22, IntKind.wrap .i64 ((IntKind.wrap .i64 (i6 + 1)) + 1))), h, (Weak.norm (m := 0) (Nat.le_of_ble_eq_true rfl) ⟨rfl, rfl, rfl, trivial⟩ rfl rfl rfl), Nat.lt_succ_self _⟩
    · replace h := bif_f hb14 h
      refine AW.skip ?_
      replace h := Option.bind_eq_some_iff.1 h; obtain ⟨t25, q26, h⟩ := h
      have f27 := sslice_f q26
      have f27e := f27.2.2.2.2
      try simp only [Int.toNat_natCast, Int.toNat_zero, List.drop_zero] at f27e
      have f27l := f27.2.2.1
      try simp only [Int.toNat_natCast, Int.toNat_zero] at f27l
      replace h := Option.bind_eq_some_iff.1 h; obtain ⟨s28, q29, h⟩ := h
      have f30 := catO_f q29
      try simp only [List.length_cons, List.length_nil, Nat.zero_add, Nat.reduceAdd, Nat.reduceLeDiff, Nat.add_zero, Nat.reduceMul] at f30
      refine AW.reg hS [(0, .pv (.str s1)), (5, .pv (.str s28)), (6, .pv (.int .i64 i6))] [] ?_ ?_
      · simp -implicitDefEqProofs only [RUNS, qindex, Nat.reduceAdd, Nat.reduceLeDiff, Nat.reduceSub, reduceIte, Nat.reduceEqDiff, Nat.reduceLT, reduceCtorEq, Nat.reduceMul, if_true, if_false, eq_self, ne_eq, env_bT, T_3, T_9, NsOp.pv_eq, Word.pv_eq, Chan.pv_eq, Target.pv_eq, P38_eq, Mount.pv_eq, P31_eq, Ns.pv_eq, eqT_3, f27.1, f27.2.1, f27l, f27.2.2.2.1, f27e, Int.toNat_natCast, Int.toNat_zero, eqT_9, f30.1, f30.2]
      refine AW.reg hS [(0, .pv (.str s1)), (5, .pv (.str s28)), (6, .pv (.int .i64 (IntKind.wrap .i64 (i6 + 1))))] [] ?_ ?_
      · simp -implicitDefEqProofs only [RUNS, qindex, Nat.reduceAdd, Nat.reduceLeDiff, Nat.reduceSub, reduceIte, Nat.reduceEqDiff, Nat.reduceLT, reduceCtorEq, Nat.reduceMul, if_true, if_false, eq_self, ne_eq, env_bT, T_3, NsOp.pv_eq, Word.pv_eq, Chan.pv_eq, Target.pv_eq, P38_eq, Mount.pv_eq, P31_eq, Ns.pv_eq, eqT_3]
      exact ⟨(m9, (s28, IntKind.wrap .i64 (i6 + 1))), h, (Weak.norm (m := 0) (Nat.le_of_ble_eq_true rfl) ⟨rfl, rfl, rfl, trivial⟩ rfl rfl rfl), Nat.lt_succ_self _⟩
  · replace h := bif_f hb10 h
    refine AW.exit ?_
    refine AW.seq ?_
    refine AW.reg hS [(2, .pv (.str [])), (3, .pv (.int .i64 0)), (4, .pv (.bool false))] [] ?_ ?_
    · simp -implicitDefEqProofs only [RUNS, qindex, Nat.reduceAdd, Nat.reduceLeDiff, Nat.reduceSub, reduceIte, Nat.reduceEqDiff, Nat.reduceLT, reduceCtorEq, Nat.reduceMul, if_true, if_false, eq_self, ne_eq, env_bT, NsOp.pv_eq, Word.pv_eq, Chan.pv_eq, Target.pv_eq, P38_eq, Mount.pv_eq, P31_eq, Ns.pv_eq]
    refine AW.ret ?_
    cases h
    show finish _ _ _ _ _ = _
    first | rfl | (simp [finish, resOf, renArgs, toPV, selObjs, sl])

set_option maxHeartbeats 4000000 in
theorem g_F29 {O : Orc} (hS : Sound env O) (hpf : O.pf = pfn) (c_F42 : C_F42 O) (s1 : Str) (r2 : List Word) (r3 : Bool) (h : F29 s1 = some (r2, r3)) : Good env 29 [.pv (.str s1)] [] [.pv (.slice (List.map Word.pv r2)), .pv (.bool r3)] [] := by
  have pf_42 : O.pf 42 = true := by rw [hpf]; rfl
  refine Good.start (fn := Tryd.f29) (N := 86) rfl rfl rfl (by simp) [] _ rfl rfl ?_
  rw [F29] at h
  refine AW.seq ?_
  refine AW.reg hS [(0, .pv (.str s1))] [] ?_ ?_
  · simp -implicitDefEqProofs only [RUNS, qindex, Nat.reduceAdd, Nat.reduceLeDiff, Nat.reduceSub, reduceIte, Nat.reduceEqDiff, Nat.reduceLT, reduceCtorEq, Nat.reduceMul, if_true, if_false, eq_self, ne_eq, env_bT, NsOp.pv_eq, Word.pv_eq, Chan.pv_eq, Target.pv_eq, P38_eq, Mount.pv_eq, P31_eq, Ns.pv_eq]
  refine AW.seq ?_
  refine AW.reg hS [(0, .pv (.str s1)), (4, .nils)] [] ?_ ?_
  · simp -implicitDefEqProofs only [RUNS, qindex, Nat.reduceAdd, Nat.reduceLeDiff, Nat.reduceSub, reduceIte, Nat.reduceEqDiff, Nat.reduceLT, reduceCtorEq, Nat.reduceMul, if_true, if_false, eq_self, ne_eq, env_bT, NsOp.pv_eq, Word.pv_eq, Chan.pv_eq, Target.pv_eq, P38_eq, Mount.pv_eq, P31_eq, Ns.pv_eq]
  refine AW.weak (Weak.own 4 77 2 (by decide) rfl) ?_
  refine AW.weak (Weak.slots (L := [(0, .pv (.str s1)), (4, .vec 0 (List.length ([] : List Word)))]) ⟨rfl, rfl, trivial⟩) ?_
  refine AW.seq ?_
  refine AW.seq ?_
  refine AW.reg hS [(0, .pv (.str s1)), (4, .vec 0 (List.length ([] : List Word))), (5, .pv (.int .i64 0))] [.row 77 2 (List.map Word.pv ([] : List Word)) true] ?_ ?_
  · simp -implicitDefEqProofs only [RUNS, qindex, Nat.reduceAdd, Nat.reduceLeDiff, Nat.reduceSub, reduceIte, Nat.reduceEqDiff, Nat.reduceLT, reduceCtorEq, Nat.reduceMul, if_true, if_false, eq_self, ne_eq, env_bT, NsOp.pv_eq, Word.pv_eq, Chan.pv_eq, Target.pv_eq, P38_eq, Mount.pv_eq, P31_eq, Ns.pv_eq]
  refine AW.block ?_
  refine AW.weak (Weak.slots (L := [(0, .pv (.str s1)), (4, .vec 0 (List.length ([] : List Word))), (5, .pv (.int .i64 0))]) ⟨rfl, rfl, rfl, trivial⟩) ?_
  refine AW.loopI (α := Nat × Int × (List Word)) (fun (_, i4, l5) => ⟨sl [(0, .pv (.str s1)), (4, .vec 0 (List.length l5)), (5, .pv (.int .i64 i4))], 86, [.row 77 2 (List.map Word.pv l5) true]⟩) (fun x => iter (F29_b2 s1) x.1 x.2 = some (r2, r3)) (fun x => x.1) (BIG, (0, ([] : List Word))) h ?_
  clear h
  intro ⟨n51, i4, l5⟩ h
  replace h := iter_some h; obtain ⟨m8, rfl, h⟩ := h
  rw [F29_b2] at h
  try dsimp only at h
  show AW _ _ _ _ ⟨sl [(0, .pv (.str s1)), (4, .vec 0 (List.length l5)), (5, .pv (.int .i64 i4))], 86, [.row 77 2 (List.map Word.pv l5) true]⟩
  refine AW.seq ?_
  refine AW.seq ?_
  refine AW.reg hS [(0, .pv (.str s1)), (4, .vec 0 (List.length l5)), (5, .pv (.int .i64 i4)), (13, .pv (.bool (decide (i4 < (s1.length : Int)))))] [.row 77 2 (List.map Word.pv l5) true] ?_ ?_
  · simp -implicitDefEqProofs only [RUNS, qindex, Nat.reduceAdd, Nat.reduceLeDiff, Nat.reduceSub, reduceIte, Nat.reduceEqDiff, Nat.reduceLT, reduceCtorEq, Nat.reduceMul, if_true, if_false, eq_self, ne_eq, env_bT, T_3, T_9, NsOp.pv_eq, Word.pv_eq, Chan.pv_eq, Target.pv_eq, P38_eq, Mount.pv_eq, P31_eq, Ns.pv_eq, eqT_3]
  refine AW.cond (b := decide (i4 < (s1.length : Int))) rfl (fun hb9 => ?_) (fun hb9 => ?_)
  · replace h := bif_t hb9 h
    refine AW.skip ?_
    refine AW.block ?_
    refine AW.seq ?_
    refine AW.seq ?_
    replace h := Option.bind_eq_some_iff.1 h; obtain ⟨c10, q11, h⟩ := h
    have f12 := sidx_f q11
    refine AW.reg hS [(0, .pv (.str s1)), (4, .vec 0 (List.length l5)), (5, .pv (.int .i64 i4)), (16, .pv (.int .u8 c10))] [.row 77 2 (List.map Word.pv l5) true] ?_ ?_
    · simp -implicitDefEqProofs only [RUNS, qindex, Nat.reduceAdd, Nat.reduceLeDiff, Nat.reduceSub, reduceIte, Nat.reduceEqDiff, Nat.reduceLT, reduceCtorEq, Nat.reduceMul, if_true, if_false, eq_self, ne_eq, env_bT, T_9, NsOp.pv_eq, Word.pv_eq, Chan.pv_eq, Target.pv_eq, P38_eq, Mount.pv_eq, P31_eq, Ns.pv_eq, f12.1, f12.2.1, f12.2.2]
    refine AW.block ?_
    refine AW.seqM ⟨sl [(0, .pv (.str s1)), (4, .vec 0 (List.length l5)), (5, .pv (.int .i64 i4)), (16, .pv (.int .u8 c10)), (17, .pv (.bool (bif decide (c10 = 32) then decide (c10 = 32) else decide (c10 = 9))))], 86, [.row 77 2 (List.map Word.pv l5) true]⟩ ?_ ?_
    · refine AW.seq ?_
      refine AW.reg hS [(0, .pv (.str s1)), (4, .vec 0 (List.length l5)), (5, .pv (.int .i64 i4)), (16, .pv (.int .u8 c10)), (17, .pv (.bool (decide (c10 = 32))))] [.row 77 2 (List.map Word.pv l5) true] ?_ ?_
      · simp -implicitDefEqProofs only [RUNS, qindex, Nat.reduceAdd, Nat.reduceLeDiff, Nat.reduceSub, reduceIte, Nat.reduceEqDiff, Nat.reduceLT, reduceCtorEq, Nat.reduceMul, if_true, if_false, eq_self, ne_eq, env_bT, T_5, NsOp.pv_eq, Word.pv_eq, Chan.pv_eq, Target.pv_eq, P38_eq, Mount.pv_eq, P31_eq, Ns.pv_eq, eqT_5]
      refine AW.cond (b := decide (c10 = 32)) rfl (fun hb13 => ?_) (fun hb13 => ?_)
      · refine AW.skip ?_
        exact Weak.of_eq (Weak.slots (L := [(0, .pv (.str s1)), (4, .vec 0 (List.length l5)), (5, .pv (.int .i64 i4)), (16, .pv (.int .u8 c10)), (17, .pv (.bool (decide (c10 = 32))))]) ⟨rfl, rfl, rfl, rfl, rfl, trivial⟩) (by simp only [hb13, cond_true, cond_false, Bool.true_or, Bool.false_or, Bool.true_and, Bool.false_and, Bool.or_true, Bool.or_false, Bool.and_true, Bool.and_false, Bool.not_true, Bool.not_false])
      · refine AW.reg hS [(0, .pv (.str s1)), (4, .vec 0 (List.length l5)), (5, .pv (.int .i64 i4)), (16, .pv (.int .u8 c10)), (17, .pv (.bool (decide (c10 = 9))))] [.row 77 2 (List.map Word.pv l5) true] ?_ ?_
        · simp -implicitDefEqProofs only [RUNS, qindex, Nat.reduceAdd, Nat.reduceLeDiff, Nat.reduceSub, reduceIte, Nat.reduceEqDiff, Nat.reduceLT, reduceCtorEq, Nat.reduceMul, if_true, if_false, eq_self, ne_eq, env_bT, T_5, NsOp.pv_eq, Word.pv_eq, Chan.pv_eq, Target.pv_eq, P38_eq, Mount.pv_eq, P31_eq, Ns.pv_eq, eqT_5]
        exact Weak.of_eq (Weak.slots (L := [(0, .pv (.str s1)), (4, .vec 0 (List.length l5)), (5, .pv (.int .i64 i4)), (16, .pv (.int .u8 c10)), (17, .pv (.bool (decide (c10 = 9))))]) ⟨rfl, rfl, rfl, rfl, rfl, trivial⟩) (by simp only [hb13, cond_true, cond_false, Bool.true_or, Bool.false_or, Bool.true_and, Bool.false_and, Bool.or_true, Bool.or_false, Bool.and_true, Bool.and_false, Bool.not_true, Bool.not_false])
    refine AW.cond (b := (bif decide (c10 = 32) then decide (c10 = 32) else decide (c10 = 9))) rfl (fun hb14 => ?_) (fun hb14 => ?_)
    · replace h := bif_t hb14 h
      refine AW.seq ?_
      refine AW.reg hS [(0, .pv (.str s1)), (4, .vec 0 (List.length l5)), (5, .pv (.int .i64 (IntKind.wrap .i64 (i4 + 1))))] [.row 77 2 (List.map Word.pv l5) true] ?_ ?_
      · simp -implicitDefEqProofs only [RUNS, qindex, Nat.reduceAdd, Nat.reduceLeDiff, Nat.reduceSub, reduceIte, Nat.reduceEqDiff, Nat.reduceLT, reduceCtorEq, Nat.reduceMul, if_true, if_false, eq_self, ne_eq, env_bT, T_3, NsOp.pv_eq, Word.pv_eq, Chan.pv_eq, Target.pv_eq, P38_eq, Mount.pv_eq, P31_eq, Ns.pv_eq, eqT_3]
      refine AW.exit ?_
      exact ⟨(m8, (IntKind.wrap .i64 (i4 + 1), l5)), h, (Weak.norm (m := 1) (Nat.le_of_ble_eq_true rfl) ⟨rfl, rfl, rfl, trivial⟩ rfl rfl rfl), Nat.lt_succ_self _⟩
    · replace h := bif_f hb14 h
      refine AW.seq ?_
      refine AW.reg hS [(0, .pv (.str s1)), (4, .vec 0 (List.length l5)), (5, .pv (.int .i64 i4)), (22, .pv (.bool (decide (c10 = 35))))] [.row 77 2 (List.map Word.pv l5) true] ?_ ?_
      · simp -implicitDefEqProofs only [RUNS, qindex, Nat.reduceAdd, Nat.reduceLeDiff, Nat.reduceSub, reduceIte, Nat.reduceEqDiff, Nat.reduceLT, reduceCtorEq, Nat.reduceMul, if_true, if_false, eq_self, ne_eq, env_bT, T_5, NsOp.pv_eq, Word.pv_eq, Chan.pv_eq, Target.pv_eq, P38_eq, Mount.pv_eq, P31_eq, Ns.pv_eq, eqT_5]
      refine AW.cond (b := decide (c10 = 35)) rfl (fun hb15 => ?_) (fun hb15 => ?_)
      · replace h := bif_t hb15 h
        refine AW.seq ?_
        refine AW.reg hS [(2, .vec 0 (List.length l5)), (3, .pv (.bool true))] [.row 77 2 (List.map Word.pv l5) true] ?_ ?_
        · simp -implicitDefEqProofs only [RUNS, qindex, Nat.reduceAdd, Nat.reduceLeDiff, Nat.reduceSub, reduceIte, Nat.reduceEqDiff, Nat.reduceLT, reduceCtorEq, Nat.reduceMul, if_true, if_false, eq_self, ne_eq, env_bT, NsOp.pv_eq, Word.pv_eq, Chan.pv_eq, Target.pv_eq, P38_eq, Mount.pv_eq, P31_eq, Ns.pv_eq]
        refine AW.ret ?_
        cases h
        show finish _ _ _ _ _ = _
        first | rfl | (simp [finish, resOf, renArgs, toPV, selObjs, sl])
      · replace h := bif_f hb15 h
        refine AW.skip ?_
        refine AW.seq ?_
        refine AW.reg hS [(0, .pv (.str s1)), (4, .vec 0 (List.length l5)), (5, .pv (.int .i64 i4)), (6, .ref 1 0)] [.row 77 2 (List.map Word.pv l5) true, .var [.pv (.str []), .pv (.bool (decide (c10 = 39)))]] ?_ ?_
        · simp -implicitDefEqProofs only [RUNS, qindex, Nat.reduceAdd, Nat.reduceLeDiff, Nat.reduceSub, reduceIte, Nat.reduceEqDiff, Nat.reduceLT, reduceCtorEq, Nat.reduceMul, if_true, if_false, eq_self, ne_eq, env_bT, T_5, T_9, T_77, NsOp.pv_eq, Word.pv_eq, Chan.pv_eq, Target.pv_eq, P38_eq, Mount.pv_eq, P31_eq, Ns.pv_eq, f12.1, f12.2.1, f12.2.2, eqT_5]
        refine AW.seq ?_
        refine AW.block ?_
        refine AW.weak (Weak.slots (L := [(0, .pv (.str s1)), (4, .vec 0 (List.length l5)), (5, .pv (.int .i64 i4)), (6, .ref 1 0)]) ⟨rfl, rfl, rfl, rfl, trivial⟩) ?_
        refine AW.loopI (α := Nat × Int × Str) (fun (_, i16, x17) => ⟨sl [(0, .pv (.str s1)), (4, .vec 0 (List.length l5)), (5, .pv (.int .i64 i16)), (6, .ref 1 0)], 86, [.row 77 2 (List.map Word.pv l5) true, .var [.pv (.str x17), .pv (.bool (decide (c10 = 39)))]]⟩) (fun x => iter (F29_b3 s1 l5 c10 (iter (F29_b2 s1) m8)) x.1 x.2 = some (r2, r3)) (fun x => x.1) (BIG, (i4, [])) h ?_
        clear h
        intro ⟨n50, i16, x17⟩ h
        replace h := iter_some h; obtain ⟨m20, rfl, h⟩ := h
        rw [F29_b3] at h
        try dsimp only at h
        show AW _ _ _ _ ⟨sl [(0, .pv (.str s1)), (4, .vec 0 (List.length l5)), (5, .pv (.int .i64 i16)), (6, .ref 1 0)], 86, [.row 77 2 (List.map Word.pv l5) true, .var [.pv (.str x17), .pv (.bool (decide (c10 = 39)))]]⟩
        refine AW.seq ?_
        refine AW.seq ?_
        replace h := Option.bind_eq_some_iff.1 h; obtain ⟨c21, q22, h⟩ := h
        have f23 := sidx_g (guardO_t q22)
        refine AW.reg hS [(0, .pv (.str s1)), (4, .vec 0 (List.length l5)), (5, .pv (.int .i64 i16)), (6, .ref 1 0), (45, .pv (.bool ((decide (i16 < (s1.length : Int)) && !decide (c21 = 32)) && !decide (c21 = 9))))] [.row 77 2 (List.map Word.pv l5) true, .var [.pv (.str x17), .pv (.bool (decide (c10 = 39)))]] ?_ ?_
        · clear h
          (simp -implicitDefEqProofs only [RUNS, qindex, Nat.reduceAdd, Nat.reduceLeDiff, Nat.reduceSub, reduceIte, Nat.reduceEqDiff, Nat.reduceLT, reduceCtorEq, Nat.reduceMul, if_true, if_false, eq_self, ne_eq, env_bT, T_3, T_5, T_9, NsOp.pv_eq, Word.pv_eq, Chan.pv_eq, Target.pv_eq, P38_eq, Mount.pv_eq, P31_eq, Ns.pv_eq, eqT_3, f23.1, f23.2.1, f23.2.2, eqT_5]); repeat' (split <;> rename_i hb <;> (try simp only [HBS, ge_iff_le, gt_iff_lt] at hb) <;> simp -implicitDefEqProofs only [RUNS, qindex, Nat.reduceAdd, Nat.reduceLeDiff, Nat.reduceSub, reduceIte, Nat.reduceEqDiff, Nat.reduceLT, reduceCtorEq, Nat.reduceMul, if_true, if_false, eq_self, ne_eq, env_bT, T_3, T_5, T_9, NsOp.pv_eq, Word.pv_eq, Chan.pv_eq, Target.pv_eq, P38_eq, Mount.pv_eq, P31_eq, Ns.pv_eq, eqT_3, f23.1, f23.2.1, f23.2.2, eqT_5, *, decide_true, decide_false, Decidable.not_not, not_false_eq_true, not_true_eq_false])
          all_goals (first | (simp only [BOOLS]; done) | (simp [*]; done) | ((try simp only [CLOS, beq_iff_eq, bne_iff_ne, ne_eq] at *) <;> omega) | (simp_all; done) | (simp_all <;> omega))
        refine AW.cond (b := ((decide (i16 < (s1.length : Int)) && !decide (c21 = 32)) && !decide (c21 = 9))) rfl (fun hb24 => ?_) (fun hb24 => ?_)
        · replace h := bif_t hb24 h
          refine AW.skip ?_
          refine AW.block ?_
          refine AW.seq ?_
          refine AW.seq ?_
          replace h := Option.bind_eq_some_iff.1 h; obtain ⟨c25, q26, h⟩ := h
          have f27 := sidx_f q26
          refine AW.reg hS [(0, .pv (.str s1)), (4, .vec 0 (List.length l5)), (5, .pv (.int .i64 i16)), (6, .ref 1 0), (49, .pv (.bool (!decide (c25 = 39))))] [.row 77 2 (List.map Word.pv l5) true, .var [.pv (.str x17), .pv (.bool (decide (c10 = 39)))]] ?_ ?_
          · simp -implicitDefEqProofs only [RUNS, qindex, Nat.reduceAdd, Nat.reduceLeDiff, Nat.reduceSub, reduceIte, Nat.reduceEqDiff, Nat.reduceLT, reduceCtorEq, Nat.reduceMul, if_true, if_false, eq_self, ne_eq, env_bT, T_5, T_9, NsOp.pv_eq, Word.pv_eq, Chan.pv_eq, Target.pv_eq, P38_eq, Mount.pv_eq, P31_eq, Ns.pv_eq, f27.1, f27.2.1, f27.2.2, eqT_5]
          refine AW.cond (b := !decide (c25 = 39)) rfl (fun hb28 => ?_) (fun hb28 => ?_)
          · replace h := bif_t hb28 h
            refine AW.seq ?_
            replace h := Option.bind_eq_some_iff.1 h; obtain ⟨t29, q30, h⟩ := h
            have f31 := sslice_f q30
            have f31e := f31.2.2.2.2
            try simp only [Int.toNat_natCast, Int.toNat_zero, List.drop_zero] at f31e
            have f31l := f31.2.2.1
            try simp only [Int.toNat_natCast, Int.toNat_zero] at f31l
            replace h := Option.bind_eq_some_iff.1 h; obtain ⟨s32, q33, h⟩ := h
            have f34 := catO_f q33
            try simp only [List.length_cons, List.length_nil, Nat.zero_add, Nat.reduceAdd, Nat.reduceLeDiff, Nat.add_zero, Nat.reduceMul] at f34
            refine AW.dregB mixed hS [(6, some 1), (50, some 1), (58, some 1)] rfl (hpf ▸ (by kernel_rfl : orderOKB pfn [(6, some 1), (50, some 1), (58, some 1)] _ = true)) [(0, .pv (.str s1)), (4, .vec 0 (List.length l5)), (5, .pv (.int .i64 i16)), (6, .ref 1 0)] [.row 77 2 (List.map Word.pv l5) true, .var [.pv (.str s32), .pv (.bool (decide (c10 = 39)))]] ?_ ?_
            · simp -implicitDefEqProofs only [RUNS, qindex, Nat.reduceAdd, Nat.reduceLeDiff, Nat.reduceSub, reduceIte, Nat.reduceEqDiff, Nat.reduceLT, reduceCtorEq, Nat.reduceMul, if_true, if_false, eq_self, ne_eq, env_bT, T_3, T_9, T_77, NsOp.pv_eq, Word.pv_eq, Chan.pv_eq, Target.pv_eq, P38_eq, Mount.pv_eq, P31_eq, Ns.pv_eq, eqT_3, f31.1, f31.2.1, f31l, f31.2.2.2.1, f31e, Int.toNat_natCast, Int.toNat_zero, eqT_9, f34.1, f34.2]
            refine AW.seq ?_
            refine AW.reg hS [(0, .pv (.str s1)), (4, .vec 0 (List.length l5)), (5, .pv (.int .i64 (IntKind.wrap .i64 (i16 + 1)))), (6, .ref 1 0)] [.row 77 2 (List.map Word.pv l5) true, .var [.pv (.str s32), .pv (.bool (decide (c10 = 39)))]] ?_ ?_
            · simp -implicitDefEqProofs only [RUNS, qindex, Nat.reduceAdd, Nat.reduceLeDiff, Nat.reduceSub, reduceIte, Nat.reduceEqDiff, Nat.reduceLT, reduceCtorEq, Nat.reduceMul, if_true, if_false, eq_self, ne_eq, env_bT, T_3, NsOp.pv_eq, Word.pv_eq, Chan.pv_eq, Target.pv_eq, P38_eq, Mount.pv_eq, P31_eq, Ns.pv_eq, eqT_3]
            refine AW.exit ?_
            exact ⟨(m20, (IntKind.wrap .i64 (i16 + 1), s32)), h, (Weak.norm (m := 2) (Nat.le_of_ble_eq_true rfl) ⟨rfl, rfl, rfl, rfl, trivial⟩ rfl rfl rfl), Nat.lt_succ_self _⟩
          · replace h := bif_f hb28 h
            refine AW.skip ?_
            refine AW.seq ?_
            replace h := Option.bind_eq_some_iff.1 h; obtain ⟨t35, q36, h⟩ := h
            have f37 := sslice_f q36
            have f37e := f37.2.2.2.2
            try simp only [Int.toNat_natCast, Int.toNat_zero, List.drop_zero] at f37e
            have f37l := f37.2.2.1
            try simp only [Int.toNat_natCast, Int.toNat_zero] at f37l
            replace h := Option.bind_eq_some_iff.1 h; obtain ⟨⟨r38, r39, r40⟩, q41, h⟩ := h
            dsimp only at h
            have f42 := c_F42 t35 r38 r39 r40 q41
            try dsimp only at f42
            refine AW.reg hS [(0, .pv (.str s1)), (4, .vec 0 (List.length l5)), (5, .pv (.int .i64 i16)), (6, .ref 1 0), (7, .pv (.str r38)), (8, .pv (.int .i64 r39)), (9, .pv (.bool r40))] [.row 77 2 (List.map Word.pv l5) true, .var [.pv (.str x17), .pv (.bool (decide (c10 = 39)))]] ?_ ?_
            · simp -implicitDefEqProofs only [RUNS, qindex, Nat.reduceAdd, Nat.reduceLeDiff, Nat.reduceSub, reduceIte, Nat.reduceEqDiff, Nat.reduceLT, reduceCtorEq, Nat.reduceMul, if_true, if_false, eq_self, ne_eq, env_bT, T_3, T_9, NsOp.pv_eq, Word.pv_eq, Chan.pv_eq, Target.pv_eq, P38_eq, Mount.pv_eq, P31_eq, Ns.pv_eq, eqT_3, f37.1, f37.2.1, f37l, f37.2.2.2.1, f37e, Int.toNat_natCast, Int.toNat_zero, pf_42, f42]
            refine AW.seq ?_
            refine AW.seq ?_
            refine AW.reg hS [(0, .pv (.str s1)), (4, .vec 0 (List.length l5)), (5, .pv (.int .i64 i16)), (6, .ref 1 0), (7, .pv (.str r38)), (8, .pv (.int .i64 r39)), (71, .pv (.bool (!r40)))] [.row 77 2 (List.map Word.pv l5) true, .var [.pv (.str x17), .pv (.bool (decide (c10 = 39)))]] ?_ ?_
            · simp -implicitDefEqProofs only [RUNS, qindex, Nat.reduceAdd, Nat.reduceLeDiff, Nat.reduceSub, reduceIte, Nat.reduceEqDiff, Nat.reduceLT, reduceCtorEq, Nat.reduceMul, if_true, if_false, eq_self, ne_eq, env_bT, NsOp.pv_eq, Word.pv_eq, Chan.pv_eq, Target.pv_eq, P38_eq, Mount.pv_eq, P31_eq, Ns.pv_eq]
            refine AW.cond (b := !r40) rfl (fun hb43 => ?_) (fun hb43 => ?_)
            · replace h := bif_t hb43 h
              refine AW.seq ?_
              refine AW.reg hS [(2, .nils), (3, .pv (.bool false))] [.row 77 2 (List.map Word.pv l5) true, .var [.pv (.str x17), .pv (.bool (decide (c10 = 39)))]] ?_ ?_
              · simp -implicitDefEqProofs only [RUNS, qindex, Nat.reduceAdd, Nat.reduceLeDiff, Nat.reduceSub, reduceIte, Nat.reduceEqDiff, Nat.reduceLT, reduceCtorEq, Nat.reduceMul, if_true, if_false, eq_self, ne_eq, env_bT, NsOp.pv_eq, Word.pv_eq, Chan.pv_eq, Target.pv_eq, P38_eq, Mount.pv_eq, P31_eq, Ns.pv_eq]
              refine AW.ret ?_
              cases h
              show finish _ _ _ _ _ = _
              first | rfl | (simp [finish, resOf, renArgs, toPV, selObjs, sl])
            · replace h := bif_f hb43 h
              refine AW.skip ?_
              refine AW.seq ?_
              replace h := Option.bind_eq_some_iff.1 h; obtain ⟨s44, q45, h⟩ := h
              have f46 := catO_f q45
              try simp only [List.length_cons, List.length_nil, Nat.zero_add, Nat.reduceAdd, Nat.reduceLeDiff, Nat.add_zero, Nat.reduceMul] at f46
              refine AW.reg hS [(0, .pv (.str s1)), (4, .vec 0 (List.length l5)), (5, .pv (.int .i64 i16)), (6, .ref 1 0), (8, .pv (.int .i64 r39))] [.row 77 2 (List.map Word.pv l5) true, .var [.pv (.str s44), .pv (.bool (decide (c10 = 39)))]] ?_ ?_
              · simp -implicitDefEqProofs only [RUNS, qindex, Nat.reduceAdd, Nat.reduceLeDiff, Nat.reduceSub, reduceIte, Nat.reduceEqDiff, Nat.reduceLT, reduceCtorEq, Nat.reduceMul, if_true, if_false, eq_self, ne_eq, env_bT, T_9, T_77, NsOp.pv_eq, Word.pv_eq, Chan.pv_eq, Target.pv_eq, P38_eq, Mount.pv_eq, P31_eq, Ns.pv_eq, eqT_9, f46.1, f46.2]
              refine AW.reg hS [(0, .pv (.str s1)), (4, .vec 0 (List.length l5)), (5, .pv (.int .i64 (IntKind.wrap .i64 (i16 + (IntKind.wrap .i64 (1 + r39)))))), (6, .ref 1 0)] [.row 77 2 (List.map Word.pv l5) true, .var [.pv (.str s44), .pv (.bool (decide (c10 = 39)))]] ?_ ?_
              · simp -implicitDefEqProofs only [RUNS, qindex, Nat.reduceAdd, Nat.reduceLeDiff, Nat.reduceSub, reduceIte, Nat.reduceEqDiff, Nat.reduceLT, reduceCtorEq, Nat.reduceMul, if_true, if_false, eq_self, ne_eq, env_bT, T_3, NsOp.pv_eq, Word.pv_eq, Chan.pv_eq, Target.pv_eq, P38_eq, Mount.pv_eq, P31_eq, Ns.pv_eq, eqT_3]
              exact ⟨(m20, (IntKind.wrap .i64 (i16 + (IntKind.wrap .i64 (1 + r39))), s44)), h, (Weak.norm (m := 2) (Nat.le_of_ble_eq_true rfl) ⟨rfl, rfl, rfl, rfl, trivial⟩ rfl rfl rfl), Nat.lt_succ_self _⟩
        · replace h := bif_f hb24 h
          refine AW.exit ?_
          replace h := Option.bind_eq_some_iff.1 h; obtain ⟨out47, q48, h⟩ := h
          have f49 := appO_f q48
          try simp only [List.length_cons, List.length_nil, Nat.zero_add, Nat.reduceAdd, Nat.reduceLeDiff, Nat.add_zero, Nat.reduceMul] at f49
          refine AW.reg hS [(0, .pv (.str s1)), (4, .vec 0 (List.length out47)), (5, .pv (.int .i64 i16))] [.row 77 2 (List.map Word.pv out47) true, .var [.pv (.str x17), .pv (.bool (decide (c10 = 39)))]] ?_ ?_
          · simp -implicitDefEqProofs only [RUNS, qindex, Nat.reduceAdd, Nat.reduceLeDiff, Nat.reduceSub, reduceIte, Nat.reduceEqDiff, Nat.reduceLT, reduceCtorEq, Nat.reduceMul, if_true, if_false, eq_self, ne_eq, env_bT, T_64, T_77, NsOp.pv_eq, Word.pv_eq, Chan.pv_eq, Target.pv_eq, P38_eq, Mount.pv_eq, P31_eq, Ns.pv_eq, f49.1, f49.2, Word.all]
          exact ⟨(m8, (i16, out47)), h, (Weak.norm (m := 1) (Nat.le_of_ble_eq_true rfl) ⟨rfl, rfl, rfl, trivial⟩ rfl rfl rfl), Nat.lt_succ_self _⟩
  · replace h := bif_f hb9 h
    refine AW.exit ?_
    refine AW.seq ?_
    refine AW.reg hS [(2, .vec 0 (List.length l5)), (3, .pv (.bool true))] [.row 77 2 (List.map Word.pv l5) true] ?_ ?_
    · simp -implicitDefEqProofs only [RUNS, qindex, Nat.reduceAdd, Nat.reduceLeDiff, Nat.reduceSub, reduceIte, Nat.reduceEqDiff, Nat.reduceLT, reduceCtorEq, Nat.reduceMul, if_true, if_false, eq_self, ne_eq, env_bT, NsOp.pv_eq, Word.pv_eq, Chan.pv_eq, Target.pv_eq, P38_eq, Mount.pv_eq, P31_eq, Ns.pv_eq]
    refine AW.ret ?_
    cases h
    show finish _ _ _ _ _ = _
    first | rfl | (simp [finish, resOf, renArgs, toPV, selObjs, sl])

set_option maxHeartbeats 4000000 in
theorem g_F44 {O : Orc} (hS : Sound env O) (hpf : O.pf = pfn) (c_F35 : C_F35 O) (s1 : Str) (r2 : Int) (h : F44 s1 = some r2) : Good env 44 [.pv (.str s1)] [] [.pv (.int .i64 r2)] [] := by
  have pf_35 : O.pf 35 = true := by rw [hpf]; rfl
  refine Good.start (fn := Tryd.f44) (N := 13) rfl rfl rfl (by simp) [] _ rfl rfl ?_
  rw [F44] at h
  refine AW.seq ?_
  refine AW.reg hS [(0, .pv (.str s1))] [] ?_ ?_
  · simp -implicitDefEqProofs only [RUNS, qindex, Nat.reduceAdd, Nat.reduceLeDiff, Nat.reduceSub, reduceIte, Nat.reduceEqDiff, Nat.reduceLT, reduceCtorEq, Nat.reduceMul, if_true, if_false, eq_self, ne_eq, env_bT, NsOp.pv_eq, Word.pv_eq, Chan.pv_eq, Target.pv_eq, P38_eq, Mount.pv_eq, P31_eq, Ns.pv_eq]
  refine AW.seq ?_
  refine AW.seq ?_
  refine AW.reg hS [(0, .pv (.str s1)), (3, .pv (.int .i64 1))] [] ?_ ?_
  · simp -implicitDefEqProofs only [RUNS, qindex, Nat.reduceAdd, Nat.reduceLeDiff, Nat.reduceSub, reduceIte, Nat.reduceEqDiff, Nat.reduceLT, reduceCtorEq, Nat.reduceMul, if_true, if_false, eq_self, ne_eq, env_bT, NsOp.pv_eq, Word.pv_eq, Chan.pv_eq, Target.pv_eq, P38_eq, Mount.pv_eq, P31_eq, Ns.pv_eq]
  refine AW.block ?_
  refine AW.weak (Weak.slots (L := [(0, .pv (.str s1)), (3, .pv (.int .i64 1))]) ⟨rfl, rfl, trivial⟩) ?_
  refine AW.loopI (α := Nat × Int) (fun (_, kind3) => ⟨sl [(0, .pv (.str s1)), (3, .pv (.int .i64 kind3))], 13, []⟩) (fun x => iter (F44_b1 s1) x.1 x.2 = some r2) (fun x => x.1) (BIG, 1) h ?_
  clear h
  intro ⟨n12, kind3⟩ h
  replace h := iter_some h; obtain ⟨m6, rfl, h⟩ := h
  rw [F44_b1] at h
  try dsimp only at h
  show AW _ _ _ _ ⟨sl [(0, .pv (.str s1)), (3, .pv (.int .i64 kind3))], 13, []⟩
  refine AW.seq ?_
  refine AW.seq ?_
  refine AW.reg hS [(0, .pv (.str s1)), (3, .pv (.int .i64 kind3)), (5, .pv (.bool (decide (kind3 ≤ 5))))] [] ?_ ?_
  · simp -implicitDefEqProofs only [RUNS, qindex, Nat.reduceAdd, Nat.reduceLeDiff, Nat.reduceSub, reduceIte, Nat.reduceEqDiff, Nat.reduceLT, reduceCtorEq, Nat.reduceMul, if_true, if_false, eq_self, ne_eq, env_bT, T_3, NsOp.pv_eq, Word.pv_eq, Chan.pv_eq, Target.pv_eq, P38_eq, Mount.pv_eq, P31_eq, Ns.pv_eq, eqT_3]
  refine AW.cond (b := decide (kind3 ≤ 5)) rfl (fun hb7 => ?_) (fun hb7 => ?_)
  · replace h := bif_t hb7 h
    refine AW.skip ?_
    refine AW.seq ?_
    refine AW.block ?_
    refine AW.seq ?_
    replace h := Option.bind_eq_some_iff.1 h; obtain ⟨r8, q9, h⟩ := h
    have f10 := c_F35 kind3 r8 q9
    try dsimp only at f10
    refine AW.reg hS [(0, .pv (.str s1)), (3, .pv (.int .i64 kind3)), (11, .pv (.bool (decide (r8 = s1))))] [] ?_ ?_
    · simp -implicitDefEqProofs only [RUNS, qindex, Nat.reduceAdd, Nat.reduceLeDiff, Nat.reduceSub, reduceIte, Nat.reduceEqDiff, Nat.reduceLT, reduceCtorEq, Nat.reduceMul, if_true, if_false, eq_self, ne_eq, env_bT, T_3, T_9, NsOp.pv_eq, Word.pv_eq, Chan.pv_eq, Target.pv_eq, P38_eq, Mount.pv_eq, P31_eq, Ns.pv_eq, pf_35, f10, eqT_9]
    refine AW.cond (b := decide (r8 = s1)) rfl (fun hb11 => ?_) (fun hb11 => ?_)
    · replace h := bif_t hb11 h
      refine AW.seq ?_
      refine AW.reg hS [(2, .pv (.int .i64 kind3))] [] ?_ ?_
      · simp -implicitDefEqProofs only [RUNS, qindex, Nat.reduceAdd, Nat.reduceLeDiff, Nat.reduceSub, reduceIte, Nat.reduceEqDiff, Nat.reduceLT, reduceCtorEq, Nat.reduceMul, if_true, if_false, eq_self, ne_eq, env_bT, NsOp.pv_eq, Word.pv_eq, Chan.pv_eq, Target.pv_eq, P38_eq, Mount.pv_eq, P31_eq, Ns.pv_eq]
      refine AW.ret ?_
      cases h
      show finish _ _ _ _ _ = _
      first | rfl | (simp [finish, resOf, renArgs, toPV, selObjs, sl])
    · replace h := bif_f hb11 h
      refine AW.skip ?_
      refine AW.reg hS [(0, .pv (.str s1)), (3, .pv (.int .i64 (IntKind.wrap .i64 (kind3 + 1))))] [] ?_ ?_
      · simp -implicitDefEqProofs only [RUNS, qindex, Nat.reduceAdd, Nat.reduceLeDiff, Nat.reduceSub, reduceIte, Nat.reduceEqDiff, Nat.reduceLT, reduceCtorEq, Nat.reduceMul, if_true, if_false, eq_self, ne_eq, env_bT, T_3, NsOp.pv_eq, Word.pv_eq, Chan.pv_eq, Target.pv_eq, P38_eq, Mount.pv_eq, P31_eq, Ns.pv_eq, eqT_3]
      exact ⟨(m6, IntKind.wrap .i64 (kind3 + 1)), h, (Weak.norm (m := 0) (Nat.le_of_ble_eq_true rfl) ⟨rfl, rfl, trivial⟩ rfl rfl rfl), Nat.lt_succ_self _⟩
  · replace h := bif_f hb7 h
    refine AW.exit ?_
    refine AW.seq ?_
    refine AW.reg hS [(2, .pv (.int .i64 0))] [] ?_ ?_
    · simp -implicitDefEqProofs only [RUNS, qindex, Nat.reduceAdd, Nat.reduceLeDiff, Nat.reduceSub, reduceIte, Nat.reduceEqDiff, Nat.reduceLT, reduceCtorEq, Nat.reduceMul, if_true, if_false, eq_self, ne_eq, env_bT, NsOp.pv_eq, Word.pv_eq, Chan.pv_eq, Target.pv_eq, P38_eq, Mount.pv_eq, P31_eq, Ns.pv_eq]
    refine AW.ret ?_
    cases h
    show finish _ _ _ _ _ = _
    first | rfl | (simp [finish, resOf, renArgs, toPV, selObjs, sl])

set_option maxHeartbeats 4000000 in
theorem g_F56 {O : Orc} (hS : Sound env O) (hpf : O.pf = pfn) (s1 : Str) (prefix2 : Str) (r3 : Bool) (h : F56 s1 prefix2 = some r3) : Good env 56 [.pv (.str s1), .pv (.str prefix2)] [] [.pv (.bool r3)] [] := by
  refine Good.start (fn := Tryd.f56) (N := 18) rfl rfl rfl (by simp) [] _ rfl rfl ?_
  rw [F56] at h
  refine AW.seq ?_
  refine AW.reg hS [(0, .pv (.str s1)), (1, .pv (.str prefix2))] [] ?_ ?_
  · simp -implicitDefEqProofs only [RUNS, qindex, Nat.reduceAdd, Nat.reduceLeDiff, Nat.reduceSub, reduceIte, Nat.reduceEqDiff, Nat.reduceLT, reduceCtorEq, Nat.reduceMul, if_true, if_false, eq_self, ne_eq, env_bT, NsOp.pv_eq, Word.pv_eq, Chan.pv_eq, Target.pv_eq, P38_eq, Mount.pv_eq, P31_eq, Ns.pv_eq]
  refine AW.seq ?_
  replace h := Option.bind_eq_some_iff.1 h; obtain ⟨t4, q5, h⟩ := h
  have f6 := sslice_g (guardO_t q5)
  have f6e := f6.2.2.2.2
  try simp only [Int.toNat_natCast, Int.toNat_zero, List.drop_zero] at f6e
  have f6l := f6.2.2.1
  try simp only [Int.toNat_natCast, Int.toNat_zero] at f6l
  refine AW.reg hS [(4, .pv (.bool (decide ((prefix2.length : Int) ≤ (s1.length : Int)) && decide (t4 = prefix2))))] [] ?_ ?_
  · clear h
    (simp -implicitDefEqProofs only [RUNS, qindex, Nat.reduceAdd, Nat.reduceLeDiff, Nat.reduceSub, reduceIte, Nat.reduceEqDiff, Nat.reduceLT, reduceCtorEq, Nat.reduceMul, if_true, if_false, eq_self, ne_eq, env_bT, T_3, T_9, NsOp.pv_eq, Word.pv_eq, Chan.pv_eq, Target.pv_eq, P38_eq, Mount.pv_eq, P31_eq, Ns.pv_eq, eqT_3, f6.1, f6.2.1, f6l, f6.2.2.2.1, f6e, Int.toNat_natCast, Int.toNat_zero, eqT_9]); repeat' (split <;> rename_i hb <;> (try simp only [HBS, ge_iff_le, gt_iff_lt] at hb) <;> simp -implicitDefEqProofs only [RUNS, qindex, Nat.reduceAdd, Nat.reduceLeDiff, Nat.reduceSub, reduceIte, Nat.reduceEqDiff, Nat.reduceLT, reduceCtorEq, Nat.reduceMul, if_true, if_false, eq_self, ne_eq, env_bT, T_3, T_9, NsOp.pv_eq, Word.pv_eq, Chan.pv_eq, Target.pv_eq, P38_eq, Mount.pv_eq, P31_eq, Ns.pv_eq, eqT_3, f6.1, f6.2.1, f6l, f6.2.2.2.1, f6e, Int.toNat_natCast, Int.toNat_zero, eqT_9, *, decide_true, decide_false, Decidable.not_not, not_false_eq_true, not_true_eq_false])
    all_goals (first | (simp only [BOOLS]; done) | (simp [*]; done) | ((try simp only [CLOS, beq_iff_eq, bne_iff_ne, ne_eq] at *) <;> omega) | (simp_all; done) | (simp_all <;> omega))
  refine AW.ret ?_
  cases h
  show finish _ _ _ _ _ = _
  first | rfl | (simp [finish, resOf, renArgs, toPV, selObjs, sl])

set_option maxHeartbeats 4000000 in
theorem g_F45 {O : Orc} (hS : Sound env O) (hpf : O.pf = pfn) (c_F56 : C_F56 O) (s1 : Str) (prefix2 : Str) (r3 : Bool) (h : F45 s1 prefix2 = some r3) : Good env 45 [.pv (.str s1), .pv (.str prefix2)] [] [.pv (.bool r3)] [] := by
  have pf_56 : O.pf 56 = true := by rw [hpf]; rfl
  refine Good.start (fn := Tryd.f45) (N := 8) rfl rfl rfl (by simp) [] _ rfl rfl ?_
  rw [F45] at h
  refine AW.seq ?_
  refine AW.reg hS [(0, .pv (.str s1)), (1, .pv (.str prefix2))] [] ?_ ?_
  · simp -implicitDefEqProofs only [RUNS, qindex, Nat.reduceAdd, Nat.reduceLeDiff, Nat.reduceSub, reduceIte, Nat.reduceEqDiff, Nat.reduceLT, reduceCtorEq, Nat.reduceMul, if_true, if_false, eq_self, ne_eq, env_bT, NsOp.pv_eq, Word.pv_eq, Chan.pv_eq, Target.pv_eq, P38_eq, Mount.pv_eq, P31_eq, Ns.pv_eq]
  refine AW.seq ?_
  replace h := Option.bind_eq_some_iff.1 h; obtain ⟨r4, q5, h⟩ := h
  have f6 := c_F56 s1 prefix2 r4 q5
  try dsimp only at f6
  refine AW.reg hS [(4, .pv (.bool r4))] [] ?_ ?_
  · simp -implicitDefEqProofs only [RUNS, qindex, Nat.reduceAdd, Nat.reduceLeDiff, Nat.reduceSub, reduceIte, Nat.reduceEqDiff, Nat.reduceLT, reduceCtorEq, Nat.reduceMul, if_true, if_false, eq_self, ne_eq, env_bT, T_9, NsOp.pv_eq, Word.pv_eq, Chan.pv_eq, Target.pv_eq, P38_eq, Mount.pv_eq, P31_eq, Ns.pv_eq, pf_56, f6]
  refine AW.ret ?_
  cases h
  show finish _ _ _ _ _ = _
  first | rfl | (simp [finish, resOf, renArgs, toPV, selObjs, sl])

set_option maxHeartbeats 4000000 in
theorem g_F46 {O : Orc} (hS : Sound env O) (hpf : O.pf = pfn) (s1 : Str) (r2 : Int) (r3 : Bool) (h : F46 s1 = some (r2, r3)) : Good env 46 [.pv (.str s1)] [] [.pv (.int .i64 r2), .pv (.bool r3)] [] := by
  refine Good.start (fn := Tryd.f46) (N := 17) rfl rfl rfl (by simp) [] _ rfl rfl ?_
  rw [F46] at h
  refine AW.seq ?_
  refine AW.reg hS [(0, .pv (.str s1))] [] ?_ ?_
  · simp -implicitDefEqProofs only [RUNS, qindex, Nat.reduceAdd, Nat.reduceLeDiff, Nat.reduceSub, reduceIte, Nat.reduceEqDiff, Nat.reduceLT, reduceCtorEq, Nat.reduceMul, if_true, if_false, eq_self, ne_eq, env_bT, NsOp.pv_eq, Word.pv_eq, Chan.pv_eq, Target.pv_eq, P38_eq, Mount.pv_eq, P31_eq, Ns.pv_eq]
  refine AW.seq ?_
  refine AW.seq ?_
  refine AW.reg hS [(4, .pv (.str s1))] [] ?_ ?_
  · simp -implicitDefEqProofs only [RUNS, qindex, Nat.reduceAdd, Nat.reduceLeDiff, Nat.reduceSub, reduceIte, Nat.reduceEqDiff, Nat.reduceLT, reduceCtorEq, Nat.reduceMul, if_true, if_false, eq_self, ne_eq, env_bT, NsOp.pv_eq, Word.pv_eq, Chan.pv_eq, Target.pv_eq, P38_eq, Mount.pv_eq, P31_eq, Ns.pv_eq]
  refine AW.block ?_
  refine AW.seq ?_
  refine AW.reg hS [(4, .pv (.str s1)), (5, .pv (.bool (decide (s1 = [45, 97]))))] [] ?_ ?_
  · simp -implicitDefEqProofs only [RUNS, qindex, Nat.reduceAdd, Nat.reduceLeDiff, Nat.reduceSub, reduceIte, Nat.reduceEqDiff, Nat.reduceLT, reduceCtorEq, Nat.reduceMul, if_true, if_false, eq_self, ne_eq, env_bT, T_9, NsOp.pv_eq, Word.pv_eq, Chan.pv_eq, Target.pv_eq, P38_eq, Mount.pv_eq, P31_eq, Ns.pv_eq, eqT_9]
  refine AW.cond (b := decide (s1 = [45, 97])) rfl (fun hb4 => ?_) (fun hb4 => ?_)
  · replace h := bif_t hb4 h
    refine AW.seq ?_
    refine AW.reg hS [(2, .pv (.int .i64 2)), (3, .pv (.bool true))] [] ?_ ?_
    · simp -implicitDefEqProofs only [RUNS, qindex, Nat.reduceAdd, Nat.reduceLeDiff, Nat.reduceSub, reduceIte, Nat.reduceEqDiff, Nat.reduceLT, reduceCtorEq, Nat.reduceMul, if_true, if_false, eq_self, ne_eq, env_bT, NsOp.pv_eq, Word.pv_eq, Chan.pv_eq, Target.pv_eq, P38_eq, Mount.pv_eq, P31_eq, Ns.pv_eq]
    refine AW.ret ?_
    cases h
    show finish _ _ _ _ _ = _
    first | rfl | (simp [finish, resOf, renArgs, toPV, selObjs, sl])
  · replace h := bif_f hb4 h
    refine AW.seq ?_
    refine AW.reg hS [(4, .pv (.str s1)), (7, .pv (.bool (decide (s1 = [45, 98]))))] [] ?_ ?_
    · simp -implicitDefEqProofs only [RUNS, qindex, Nat.reduceAdd, Nat.reduceLeDiff, Nat.reduceSub, reduceIte, Nat.reduceEqDiff, Nat.reduceLT, reduceCtorEq, Nat.reduceMul, if_true, if_false, eq_self, ne_eq, env_bT, T_9, NsOp.pv_eq, Word.pv_eq, Chan.pv_eq, Target.pv_eq, P38_eq, Mount.pv_eq, P31_eq, Ns.pv_eq, eqT_9]
    refine AW.cond (b := decide (s1 = [45, 98])) rfl (fun hb5 => ?_) (fun hb5 => ?_)
    · replace h := bif_t hb5 h
      refine AW.seq ?_
      refine AW.reg hS [(2, .pv (.int .i64 1)), (3, .pv (.bool true))] [] ?_ ?_
      · simp -implicitDefEqProofs only [RUNS, qindex, Nat.reduceAdd, Nat.reduceLeDiff, Nat.reduceSub, reduceIte, Nat.reduceEqDiff, Nat.reduceLT, reduceCtorEq, Nat.reduceMul, if_true, if_false, eq_self, ne_eq, env_bT, NsOp.pv_eq, Word.pv_eq, Chan.pv_eq, Target.pv_eq, P38_eq, Mount.pv_eq, P31_eq, Ns.pv_eq]
      refine AW.ret ?_
      cases h
      show finish _ _ _ _ _ = _
      first | rfl | (simp [finish, resOf, renArgs, toPV, selObjs, sl])
    · replace h := bif_f hb5 h
      refine AW.seq ?_
      refine AW.reg hS [(4, .pv (.str s1)), (9, .pv (.bool (decide (s1 = [45, 99]))))] [] ?_ ?_
      · simp -implicitDefEqProofs only [RUNS, qindex, Nat.reduceAdd, Nat.reduceLeDiff, Nat.reduceSub, reduceIte, Nat.reduceEqDiff, Nat.reduceLT, reduceCtorEq, Nat.reduceMul, if_true, if_false, eq_self, ne_eq, env_bT, T_9, NsOp.pv_eq, Word.pv_eq, Chan.pv_eq, Target.pv_eq, P38_eq, Mount.pv_eq, P31_eq, Ns.pv_eq, eqT_9]
      refine AW.cond (b := decide (s1 = [45, 99])) rfl (fun hb6 => ?_) (fun hb6 => ?_)
      · replace h := bif_t hb6 h
        refine AW.seq ?_
        refine AW.reg hS [(2, .pv (.int .i64 4)), (3, .pv (.bool true))] [] ?_ ?_
        · simp -implicitDefEqProofs only [RUNS, qindex, Nat.reduceAdd, Nat.reduceLeDiff, Nat.reduceSub, reduceIte, Nat.reduceEqDiff, Nat.reduceLT, reduceCtorEq, Nat.reduceMul, if_true, if_false, eq_self, ne_eq, env_bT, NsOp.pv_eq, Word.pv_eq, Chan.pv_eq, Target.pv_eq, P38_eq, Mount.pv_eq, P31_eq, Ns.pv_eq]
        refine AW.ret ?_
        cases h
        show finish _ _ _ _ _ = _
        first | rfl | (simp [finish, resOf, renArgs, toPV, selObjs, sl])
      · replace h := bif_f hb6 h
        refine AW.seqM ⟨sl [(4, .pv (.str s1)), (11, .pv (.bool (bif decide (s1 = [45, 97, 99]) then decide (s1 = [45, 97, 99]) else decide (s1 = [45, 99, 97]))))], 17, []⟩ ?_ ?_
        · refine AW.seq ?_
          refine AW.reg hS [(4, .pv (.str s1)), (11, .pv (.bool (decide (s1 = [45, 97, 99]))))] [] ?_ ?_
          · simp -implicitDefEqProofs only [RUNS, qindex, Nat.reduceAdd, Nat.reduceLeDiff, Nat.reduceSub, reduceIte, Nat.reduceEqDiff, Nat.reduceLT, reduceCtorEq, Nat.reduceMul, if_true, if_false, eq_self, ne_eq, env_bT, T_9, NsOp.pv_eq, Word.pv_eq, Chan.pv_eq, Target.pv_eq, P38_eq, Mount.pv_eq, P31_eq, Ns.pv_eq, eqT_9]
          refine AW.cond (b := decide (s1 = [45, 97, 99])) rfl (fun hb7 => ?_) (fun hb7 => ?_)
          · refine AW.skip ?_
            exact Weak.of_eq (Weak.slots (L := [(4, .pv (.str s1)), (11, .pv (.bool (decide (s1 = [45, 97, 99]))))]) ⟨rfl, rfl, trivial⟩) (by simp only [hb7, cond_true, cond_false, Bool.true_or, Bool.false_or, Bool.true_and, Bool.false_and, Bool.or_true, Bool.or_false, Bool.and_true, Bool.and_false, Bool.not_true, Bool.not_false])
          · refine AW.reg hS [(4, .pv (.str s1)), (11, .pv (.bool (decide (s1 = [45, 99, 97]))))] [] ?_ ?_
            · simp -implicitDefEqProofs only [RUNS, qindex, Nat.reduceAdd, Nat.reduceLeDiff, Nat.reduceSub, reduceIte, Nat.reduceEqDiff, Nat.reduceLT, reduceCtorEq, Nat.reduceMul, if_true, if_false, eq_self, ne_eq, env_bT, T_9, NsOp.pv_eq, Word.pv_eq, Chan.pv_eq, Target.pv_eq, P38_eq, Mount.pv_eq, P31_eq, Ns.pv_eq, eqT_9]
            exact Weak.of_eq (Weak.slots (L := [(4, .pv (.str s1)), (11, .pv (.bool (decide (s1 = [45, 99, 97]))))]) ⟨rfl, rfl, trivial⟩) (by simp only [hb7, cond_true, cond_false, Bool.true_or, Bool.false_or, Bool.true_and, Bool.false_and, Bool.or_true, Bool.or_false, Bool.and_true, Bool.and_false, Bool.not_true, Bool.not_false])
        refine AW.cond (b := (bif decide (s1 = [45, 97, 99]) then decide (s1 = [45, 97, 99]) else decide (s1 = [45, 99, 97]))) rfl (fun hb8 => ?_) (fun hb8 => ?_)
        · replace h := bif_t hb8 h
          refine AW.seq ?_
          refine AW.reg hS [(2, .pv (.int .i64 6)), (3, .pv (.bool true))] [] ?_ ?_
          · simp -implicitDefEqProofs only [RUNS, qindex, Nat.reduceAdd, Nat.reduceLeDiff, Nat.reduceSub, reduceIte, Nat.reduceEqDiff, Nat.reduceLT, reduceCtorEq, Nat.reduceMul, if_true, if_false, eq_self, ne_eq, env_bT, NsOp.pv_eq, Word.pv_eq, Chan.pv_eq, Target.pv_eq, P38_eq, Mount.pv_eq, P31_eq, Ns.pv_eq]
          refine AW.ret ?_
          cases h
          show finish _ _ _ _ _ = _
          first | rfl | (simp [finish, resOf, renArgs, toPV, selObjs, sl])
        · replace h := bif_f hb8 h
          refine AW.seqM ⟨sl [(14, .pv (.bool (bif decide (s1 = [45, 98, 99]) then decide (s1 = [45, 98, 99]) else decide (s1 = [45, 99, 98]))))], 17, []⟩ ?_ ?_
          · refine AW.seq ?_
            refine AW.reg hS [(4, .pv (.str s1)), (14, .pv (.bool (decide (s1 = [45, 98, 99]))))] [] ?_ ?_
            · simp -implicitDefEqProofs only [RUNS, qindex, Nat.reduceAdd, Nat.reduceLeDiff, Nat.reduceSub, reduceIte, Nat.reduceEqDiff, Nat.reduceLT, reduceCtorEq, Nat.reduceMul, if_true, if_false, eq_self, ne_eq, env_bT, T_9, NsOp.pv_eq, Word.pv_eq, Chan.pv_eq, Target.pv_eq, P38_eq, Mount.pv_eq, P31_eq, Ns.pv_eq, eqT_9]
            refine AW.cond (b := decide (s1 = [45, 98, 99])) rfl (fun hb9 => ?_) (fun hb9 => ?_)
            · refine AW.skip ?_
              exact Weak.of_eq (Weak.slots (L := [(14, .pv (.bool (decide (s1 = [45, 98, 99]))))]) ⟨rfl, trivial⟩) (by simp only [hb9, cond_true, cond_false, Bool.true_or, Bool.false_or, Bool.true_and, Bool.false_and, Bool.or_true, Bool.or_false, Bool.and_true, Bool.and_false, Bool.not_true, Bool.not_false])
            · refine AW.reg hS [(14, .pv (.bool (decide (s1 = [45, 99, 98]))))] [] ?_ ?_
              · simp -implicitDefEqProofs only [RUNS, qindex, Nat.reduceAdd, Nat.reduceLeDiff, Nat.reduceSub, reduceIte, Nat.reduceEqDiff, Nat.reduceLT, reduceCtorEq, Nat.reduceMul, if_true, if_false, eq_self, ne_eq, env_bT, T_9, NsOp.pv_eq, Word.pv_eq, Chan.pv_eq, Target.pv_eq, P38_eq, Mount.pv_eq, P31_eq, Ns.pv_eq, eqT_9]
              exact Weak.of_eq (Weak.slots (L := [(14, .pv (.bool (decide (s1 = [45, 99, 98]))))]) ⟨rfl, trivial⟩) (by simp only [hb9, cond_true, cond_false, Bool.true_or, Bool.false_or, Bool.true_and, Bool.false_and, Bool.or_true, Bool.or_false, Bool.and_true, Bool.and_false, Bool.not_true, Bool.not_false])
          refine AW.cond (b := (bif decide (s1 = [45, 98, 99]) then decide (s1 = [45, 98, 99]) else decide (s1 = [45, 99, 98]))) rfl (fun hb10 => ?_) (fun hb10 => ?_)
          · replace h := bif_t hb10 h
            refine AW.seq ?_
            refine AW.reg hS [(2, .pv (.int .i64 5)), (3, .pv (.bool true))] [] ?_ ?_
            · simp -implicitDefEqProofs only [RUNS, qindex, Nat.reduceAdd, Nat.reduceLeDiff, Nat.reduceSub, reduceIte, Nat.reduceEqDiff, Nat.reduceLT, reduceCtorEq, Nat.reduceMul, if_true, if_false, eq_self, ne_eq, env_bT, NsOp.pv_eq, Word.pv_eq, Chan.pv_eq, Target.pv_eq, P38_eq, Mount.pv_eq, P31_eq, Ns.pv_eq]
            refine AW.ret ?_
            cases h
            show finish _ _ _ _ _ = _
            first | rfl | (simp [finish, resOf, renArgs, toPV, selObjs, sl])
          · replace h := bif_f hb10 h
            refine AW.skip ?_
            refine AW.seq ?_
            refine AW.reg hS [(2, .pv (.int .i64 0)), (3, .pv (.bool false))] [] ?_ ?_
            · simp -implicitDefEqProofs only [RUNS, qindex, Nat.reduceAdd, Nat.reduceLeDiff, Nat.reduceSub, reduceIte, Nat.reduceEqDiff, Nat.reduceLT, reduceCtorEq, Nat.reduceMul, if_true, if_false, eq_self, ne_eq, env_bT, NsOp.pv_eq, Word.pv_eq, Chan.pv_eq, Target.pv_eq, P38_eq, Mount.pv_eq, P31_eq, Ns.pv_eq]
            refine AW.ret ?_
            cases h
            show finish _ _ _ _ _ = _
            first | rfl | (simp [finish, resOf, renArgs, toPV, selObjs, sl])

set_option maxHeartbeats 4000000 in
theorem g_F48 {O : Orc} (hS : Sound env O) (hpf : O.pf = pfn) (c_F34 : C_F34 O) (w1 : Word) (r2 : Bool) (h : F48 w1 = some r2) : Good env 48 [.pv (.agg [.str w1.text_, .bool w1.quoted_])] [] [.pv (.bool r2)] [] := by
  have pf_34 : O.pf 34 = true := by rw [hpf]; rfl
  refine Good.start (fn := Tryd.f48) (N := 7) rfl rfl rfl (by simp) [] _ rfl rfl ?_
  rw [F48] at h
  refine AW.seq ?_
  refine AW.reg hS [(1, .ref 0 0)] [.var [.pv (.str w1.text_), .pv (.bool w1.quoted_)]] ?_ ?_
  · simp -implicitDefEqProofs only [RUNS, qindex, Nat.reduceAdd, Nat.reduceLeDiff, Nat.reduceSub, reduceIte, Nat.reduceEqDiff, Nat.reduceLT, reduceCtorEq, Nat.reduceMul, if_true, if_false, eq_self, ne_eq, env_bT, T_77, NsOp.pv_eq, Word.pv_eq, Chan.pv_eq, Target.pv_eq, P38_eq, Mount.pv_eq, P31_eq, Ns.pv_eq]
  refine AW.seq ?_
  replace h := Option.bind_eq_some_iff.1 h; obtain ⟨r3, q4, h⟩ := h
  have f5 := c_F34 w1.text_ r3 q4
  try dsimp only at f5
  refine AW.reg hS [(2, .pv (.bool (!r3)))] [.var [.pv (.str w1.text_), .pv (.bool w1.quoted_)]] ?_ ?_
  · simp -implicitDefEqProofs only [RUNS, qindex, Nat.reduceAdd, Nat.reduceLeDiff, Nat.reduceSub, reduceIte, Nat.reduceEqDiff, Nat.reduceLT, reduceCtorEq, Nat.reduceMul, if_true, if_false, eq_self, ne_eq, env_bT, T_9, T_77, NsOp.pv_eq, Word.pv_eq, Chan.pv_eq, Target.pv_eq, P38_eq, Mount.pv_eq, P31_eq, Ns.pv_eq, pf_34, f5]
  refine AW.ret ?_
  cases h
  show finish _ _ _ _ _ = _
  first | rfl | (simp [finish, resOf, renArgs, toPV, selObjs, sl])

set_option maxHeartbeats 4000000 in
theorem g_F57 {O : Orc} (hS : Sound env O) (hpf : O.pf = pfn) (c_F48 : C_F48 O) (s1 : List Word) (r2 : Int) (h : F57 s1 = some r2) : Good env 57 [.pv (.slice (List.map Word.pv s1)), .fn 48 []] [] [.pv (.int .i64 r2)] [] := by
  have pf_48 : O.pf 48 = true := by rw [hpf]; rfl
  refine Good.start (fn := Tryd.f57) (N := 19) rfl rfl rfl (by simp) [] _ rfl rfl ?_
  rw [F57] at h
  refine AW.seq ?_
  refine AW.reg hS [(0, .pv (.slice (List.map Word.pv s1))), (1, .fn 48 [])] [] ?_ ?_
  · simp -implicitDefEqProofs only [RUNS, qindex, Nat.reduceAdd, Nat.reduceLeDiff, Nat.reduceSub, reduceIte, Nat.reduceEqDiff, Nat.reduceLT, reduceCtorEq, Nat.reduceMul, if_true, if_false, eq_self, ne_eq, env_bT, NsOp.pv_eq, Word.pv_eq, Chan.pv_eq, Target.pv_eq, P38_eq, Mount.pv_eq, P31_eq, Ns.pv_eq]
  refine AW.seq ?_
  refine AW.seq ?_
  refine AW.reg hS [(0, .pv (.slice (List.map Word.pv s1))), (1, .fn 48 []), (7, .pv (.int .i64 (s1.length : Int))), (8, .pv (.int .i64 0))] [] ?_ ?_
  · simp -implicitDefEqProofs only [RUNS, qindex, Nat.reduceAdd, Nat.reduceLeDiff, Nat.reduceSub, reduceIte, Nat.reduceEqDiff, Nat.reduceLT, reduceCtorEq, Nat.reduceMul, if_true, if_false, eq_self, ne_eq, env_bT, T_64, T_77, NsOp.pv_eq, Word.pv_eq, Chan.pv_eq, Target.pv_eq, P38_eq, Mount.pv_eq, P31_eq, Ns.pv_eq]
  refine AW.block ?_
  refine AW.weak (Weak.slots (L := [(0, .pv (.slice (List.map Word.pv s1))), (1, .fn 48 []), (7, .pv (.int .i64 (s1.length : Int))), (8, .pv (.int .i64 0))]) ⟨rfl, rfl, rfl, rfl, trivial⟩) ?_
  refine AW.loopI (α := Nat × Int) (fun (_, i3) => ⟨sl [(0, .pv (.slice (List.map Word.pv s1))), (1, .fn 48 []), (7, .pv (.int .i64 (s1.length : Int))), (8, .pv (.int .i64 i3))], 19, []⟩) (fun x => iter (F57_b1 s1) x.1 x.2 = some r2) (fun x => x.1) (BIG, 0) h ?_
  clear h
  intro ⟨n15, i3⟩ h
  replace h := iter_some h; obtain ⟨m6, rfl, h⟩ := h
  rw [F57_b1] at h
  try dsimp only at h
  show AW _ _ _ _ ⟨sl [(0, .pv (.slice (List.map Word.pv s1))), (1, .fn 48 []), (7, .pv (.int .i64 (s1.length : Int))), (8, .pv (.int .i64 i3))], 19, []⟩
  refine AW.seq ?_
  refine AW.reg hS [(0, .pv (.slice (List.map Word.pv s1))), (1, .fn 48 []), (7, .pv (.int .i64 (s1.length : Int))), (8, .pv (.int .i64 i3)), (9, .pv (.bool (decide (i3 < (s1.length : Int)))))] [] ?_ ?_
  · simp -implicitDefEqProofs only [RUNS, qindex, Nat.reduceAdd, Nat.reduceLeDiff, Nat.reduceSub, reduceIte, Nat.reduceEqDiff, Nat.reduceLT, reduceCtorEq, Nat.reduceMul, if_true, if_false, eq_self, ne_eq, env_bT, T_3, NsOp.pv_eq, Word.pv_eq, Chan.pv_eq, Target.pv_eq, P38_eq, Mount.pv_eq, P31_eq, Ns.pv_eq, eqT_3]
  refine AW.seq ?_
  refine AW.cond (b := decide (i3 < (s1.length : Int))) rfl (fun hb7 => ?_) (fun hb7 => ?_)
  · replace h := bif_t hb7 h
    refine AW.skip ?_
    refine AW.seq ?_
    refine AW.block ?_
    refine AW.seq ?_
    refine AW.reg hS [(0, .pv (.slice (List.map Word.pv s1))), (1, .fn 48 []), (5, .pv (.int .i64 i3)), (7, .pv (.int .i64 (s1.length : Int))), (8, .pv (.int .i64 i3))] [] ?_ ?_
    · simp -implicitDefEqProofs only [RUNS, qindex, Nat.reduceAdd, Nat.reduceLeDiff, Nat.reduceSub, reduceIte, Nat.reduceEqDiff, Nat.reduceLT, reduceCtorEq, Nat.reduceMul, if_true, if_false, eq_self, ne_eq, env_bT, NsOp.pv_eq, Word.pv_eq, Chan.pv_eq, Target.pv_eq, P38_eq, Mount.pv_eq, P31_eq, Ns.pv_eq]
    refine AW.seq ?_
    replace h := Option.bind_eq_some_iff.1 h; obtain ⟨u8, q9, h⟩ := h
    have f10 := lidx_f q9
    replace h := Option.bind_eq_some_iff.1 h; obtain ⟨r11, q12, h⟩ := h
    have f13 := c_F48 u8 r11 q12
    try dsimp only at f13
    refine AW.reg hS [(0, .pv (.slice (List.map Word.pv s1))), (1, .fn 48 []), (5, .pv (.int .i64 i3)), (7, .pv (.int .i64 (s1.length : Int))), (8, .pv (.int .i64 i3)), (16, .pv (.bool r11))] [] ?_ ?_
    · simp -implicitDefEqProofs only [RUNS, qindex, Nat.reduceAdd, Nat.reduceLeDiff, Nat.reduceSub, reduceIte, Nat.reduceEqDiff, Nat.reduceLT, reduceCtorEq, Nat.reduceMul, if_true, if_false, eq_self, ne_eq, env_bT, T_64, T_77, NsOp.pv_eq, Word.pv_eq, Chan.pv_eq, Target.pv_eq, P38_eq, Mount.pv_eq, P31_eq, Ns.pv_eq, f10.1, f10.2.1, pf_48, f13]
    refine AW.cond (b := r11) rfl (fun hb14 => ?_) (fun hb14 => ?_)
    · replace h := bif_t hb14 h
      refine AW.seq ?_
      refine AW.reg hS [(4, .pv (.int .i64 i3))] [] ?_ ?_
      · simp -implicitDefEqProofs only [RUNS, qindex, Nat.reduceAdd, Nat.reduceLeDiff, Nat.reduceSub, reduceIte, Nat.reduceEqDiff, Nat.reduceLT, reduceCtorEq, Nat.reduceMul, if_true, if_false, eq_self, ne_eq, env_bT, NsOp.pv_eq, Word.pv_eq, Chan.pv_eq, Target.pv_eq, P38_eq, Mount.pv_eq, P31_eq, Ns.pv_eq]
      refine AW.ret ?_
      cases h
      show finish _ _ _ _ _ = _
      first | rfl | (simp [finish, resOf, renArgs, toPV, selObjs, sl])
    · replace h := bif_f hb14 h
      refine AW.skip ?_
      refine AW.reg hS [(0, .pv (.slice (List.map Word.pv s1))), (1, .fn 48 []), (7, .pv (.int .i64 (s1.length : Int))), (8, .pv (.int .i64 (IntKind.wrap .i64 (i3 + 1))))] [] ?_ ?_
      · simp -implicitDefEqProofs only [RUNS, qindex, Nat.reduceAdd, Nat.reduceLeDiff, Nat.reduceSub, reduceIte, Nat.reduceEqDiff, Nat.reduceLT, reduceCtorEq, Nat.reduceMul, if_true, if_false, eq_self, ne_eq, env_bT, T_3, NsOp.pv_eq, Word.pv_eq, Chan.pv_eq, Target.pv_eq, P38_eq, Mount.pv_eq, P31_eq, Ns.pv_eq, eqT_3]
      exact ⟨(m6, IntKind.wrap .i64 (i3 + 1)), h, (Weak.norm (m := 0) (Nat.le_of_ble_eq_true rfl) ⟨rfl, rfl, rfl, rfl, trivial⟩ rfl rfl rfl), Nat.lt_succ_self _⟩
  · replace h := bif_f hb7 h
    refine AW.exit ?_
    refine AW.seq ?_
    refine AW.reg hS [(4, .pv (.int .i64 (-1)))] [] ?_ ?_
    · simp -implicitDefEqProofs only [RUNS, qindex, Nat.reduceAdd, Nat.reduceLeDiff, Nat.reduceSub, reduceIte, Nat.reduceEqDiff, Nat.reduceLT, reduceCtorEq, Nat.reduceMul, if_true, if_false, eq_self, ne_eq, env_bT, NsOp.pv_eq, Word.pv_eq, Chan.pv_eq, Target.pv_eq, P38_eq, Mount.pv_eq, P31_eq, Ns.pv_eq]
    refine AW.ret ?_
    cases h
    show finish _ _ _ _ _ = _
    first | rfl | (simp [finish, resOf, renArgs, toPV, selObjs, sl])

set_option maxHeartbeats 4000000 in
theorem g_F47 {O : Orc} (hS : Sound env O) (hpf : O.pf = pfn) (c_F57 : C_F57 O) (s1 : List Word) (r2 : Bool) (h : F47 s1 = some r2) : Good env 47 [.pv (.slice (List.map Word.pv s1)), .fn 48 []] [] [.pv (.bool r2)] [] := by
  have pf_57 : O.pf 57 = false := by rw [hpf]; rfl
  refine Good.start (fn := Tryd.f47) (N := 9) rfl rfl rfl (by simp) [] _ rfl rfl ?_
  rw [F47] at h
  refine AW.seq ?_
  refine AW.reg hS [(0, .pv (.slice (List.map Word.pv s1))), (1, .fn 48 [])] [] ?_ ?_
  · simp -implicitDefEqProofs only [RUNS, qindex, Nat.reduceAdd, Nat.reduceLeDiff, Nat.reduceSub, reduceIte, Nat.reduceEqDiff, Nat.reduceLT, reduceCtorEq, Nat.reduceMul, if_true, if_false, eq_self, ne_eq, env_bT, NsOp.pv_eq, Word.pv_eq, Chan.pv_eq, Target.pv_eq, P38_eq, Mount.pv_eq, P31_eq, Ns.pv_eq]
  refine AW.seq ?_
  replace h := Option.bind_eq_some_iff.1 h; obtain ⟨r3, q4, h⟩ := h
  have f5 := c_F57 s1 r3 q4
  try dsimp only at f5
  have e6 : ecall O [] 57 [.pv (.slice (List.map Word.pv s1)), .fn 48 []] = some (retAV [.pv (.int .i64 r3)], []) := ecall_eq rfl rfl rfl f5 rfl rfl rfl
  refine AW.reg hS [(4, .pv (.bool (decide (0 ≤ r3))))] [] ?_ ?_
  · simp -implicitDefEqProofs only [RUNS, qindex, Nat.reduceAdd, Nat.reduceLeDiff, Nat.reduceSub, reduceIte, Nat.reduceEqDiff, Nat.reduceLT, reduceCtorEq, Nat.reduceMul, if_true, if_false, eq_self, ne_eq, env_bT, T_3, T_64, T_77, NsOp.pv_eq, Word.pv_eq, Chan.pv_eq, Target.pv_eq, P38_eq, Mount.pv_eq, P31_eq, Ns.pv_eq, pf_57, e6, eqT_3]
  refine AW.ret ?_
  cases h
  show finish _ _ _ _ _ = _
  first | rfl | (simp [finish, resOf, renArgs, toPV, selObjs, sl])

set_option maxHeartbeats 4000000 in
theorem g_F32 {O : Orc} (hS : Sound env O) (hpf : O.pf = pfn) (c_F44 : C_F44 O) (c_F45 : C_F45 O) (c_F46 : C_F46 O) (c_F47 : C_F47 O) (c_F22 : C_F22 O) (words1 : List Word) (r2 : NsOp) (r3 : Bool) (h : F32 words1 = some (r2, r3)) : Good env 32 [.pv (.slice (List.map Word.pv words1))] [] [.pv (.agg [.int .i64 r2.kind_, .int .i64 r2.flag_, .str r2.new_, .str r2.old_]), .pv (.bool r3)] [] := by
  have pf_22 : O.pf 22 = true := by rw [hpf]; rfl
  have pf_44 : O.pf 44 = true := by rw [hpf]; rfl
  have pf_45 : O.pf 45 = true := by rw [hpf]; rfl
  have pf_46 : O.pf 46 = true := by rw [hpf]; rfl
  have pf_47 : O.pf 47 = false := by rw [hpf]; rfl
  refine Good.start (fn := Tryd.f32) (N := 149) rfl rfl rfl (by simp) [] _ rfl rfl ?_
  rw [F32] at h
  refine AW.seq ?_
  refine AW.reg hS [(0, .pv (.slice (List.map Word.pv words1))), (2, .ref 0 0)] [.var [.pv (.int .i64 0), .pv (.int .i64 0), .pv (.str []), .pv (.str [])]] ?_ ?_
  · simp -implicitDefEqProofs only [RUNS, qindex, Nat.reduceAdd, Nat.reduceLeDiff, Nat.reduceSub, reduceIte, Nat.reduceEqDiff, Nat.reduceLT, reduceCtorEq, Nat.reduceMul, if_true, if_false, eq_self, ne_eq, env_bT, T_23, NsOp.pv_eq, Word.pv_eq, Chan.pv_eq, Target.pv_eq, P38_eq, Mount.pv_eq, P31_eq, Ns.pv_eq]
  refine AW.seq ?_
  refine AW.seq ?_
  refine AW.reg hS [(0, .pv (.slice (List.map Word.pv words1))), (2, .ref 0 0), (11, .pv (.bool (decide ((words1.length : Int) = 0))))] [.var [.pv (.int .i64 0), .pv (.int .i64 0), .pv (.str []), .pv (.str [])]] ?_ ?_
  · simp -implicitDefEqProofs only [RUNS, qindex, Nat.reduceAdd, Nat.reduceLeDiff, Nat.reduceSub, reduceIte, Nat.reduceEqDiff, Nat.reduceLT, reduceCtorEq, Nat.reduceMul, if_true, if_false, eq_self, ne_eq, env_bT, T_3, T_64, T_77, NsOp.pv_eq, Word.pv_eq, Chan.pv_eq, Target.pv_eq, P38_eq, Mount.pv_eq, P31_eq, Ns.pv_eq, eqT_3]
  refine AW.cond (b := decide ((words1.length : Int) = 0)) rfl (fun hb4 => ?_) (fun hb4 => ?_)
  · replace h := bif_t hb4 h
    refine AW.seq ?_
    refine AW.reg hS [(2, .ref 0 0), (3, .pv (.bool false))] [.var [.pv (.int .i64 0), .pv (.int .i64 0), .pv (.str []), .pv (.str [])]] ?_ ?_
    · simp -implicitDefEqProofs only [RUNS, qindex, Nat.reduceAdd, Nat.reduceLeDiff, Nat.reduceSub, reduceIte, Nat.reduceEqDiff, Nat.reduceLT, reduceCtorEq, Nat.reduceMul, if_true, if_false, eq_self, ne_eq, env_bT, T_23, NsOp.pv_eq, Word.pv_eq, Chan.pv_eq, Target.pv_eq, P38_eq, Mount.pv_eq, P31_eq, Ns.pv_eq]
    refine AW.ret ?_
    cases h
    show finish _ _ _ _ _ = _
    first | rfl | (simp [finish, resOf, renArgs, toPV, selObjs, sl])
  · replace h := bif_f hb4 h
    refine AW.skip ?_
    refine AW.seq ?_
    replace h := Option.bind_eq_some_iff.1 h; obtain ⟨u5, q6, h⟩ := h
    have f7 := lidx_f q6
    replace h := Option.bind_eq_some_iff.1 h; obtain ⟨r8, q9, h⟩ := h
    have f10 := c_F44 u5.text_ r8 q9
    try dsimp only at f10
    refine AW.reg hS [(0, .pv (.slice (List.map Word.pv words1))), (2, .ref 0 0), (4, .ref 1 0)] [.var [.pv (.int .i64 0), .pv (.int .i64 0), .pv (.str []), .pv (.str [])], .var [.pv (.int .i64 r8), .pv (.int .i64 0), .pv (.str []), .pv (.str [])]] ?_ ?_
    · simp -implicitDefEqProofs only [RUNS, qindex, Nat.reduceAdd, Nat.reduceLeDiff, Nat.reduceSub, reduceIte, Nat.reduceEqDiff, Nat.reduceLT, reduceCtorEq, Nat.reduceMul, if_true, if_false, eq_self, ne_eq, env_bT, T_9, T_23, T_64, T_77, NsOp.pv_eq, Word.pv_eq, Chan.pv_eq, Target.pv_eq, P38_eq, Mount.pv_eq, P31_eq, Ns.pv_eq, f7.1, f7.2.1, pf_44, f10]
    refine AW.seq ?_
    replace h := Option.bind_eq_some_iff.1 h; obtain ⟨l11, q12, h⟩ := h
    have f13 := lslice_f q12
    have f13l := f13.2.2.1
    try simp only [Int.toNat_natCast, Int.toNat_zero] at f13l
    refine AW.reg hS [(2, .ref 0 0), (4, .ref 1 0), (5, .pv (.slice (List.map Word.pv l11)))] [.var [.pv (.int .i64 0), .pv (.int .i64 0), .pv (.str []), .pv (.str [])], .var [.pv (.int .i64 r8), .pv (.int .i64 0), .pv (.str []), .pv (.str [])]] ?_ ?_
    · simp -implicitDefEqProofs only [RUNS, qindex, Nat.reduceAdd, Nat.reduceLeDiff, Nat.reduceSub, reduceIte, Nat.reduceEqDiff, Nat.reduceLT, reduceCtorEq, Nat.reduceMul, if_true, if_false, eq_self, ne_eq, env_bT, T_64, T_77, NsOp.pv_eq, Word.pv_eq, Chan.pv_eq, Target.pv_eq, P38_eq, Mount.pv_eq, P31_eq, Ns.pv_eq, f13.1, f13.2.1, f13l, f13.2.2.2.1, f13.2.2.2.2, List.map_take, List.map_drop, List.length_map, Int.toNat_natCast, Int.toNat_zero, Word.all] <;> simp only [List.length_take, List.length_drop, List.length_map]
    clear f13 f13l
    refine AW.seq ?_
    refine AW.reg hS [(2, .ref 0 0), (4, .ref 1 0), (5, .pv (.slice (List.map Word.pv l11))), (6, .pv (.bool (decide (r8 = 1) || decide (r8 = 2))))] [.var [.pv (.int .i64 0), .pv (.int .i64 0), .pv (.str []), .pv (.str [])], .var [.pv (.int .i64 r8), .pv (.int .i64 0), .pv (.str []), .pv (.str [])]] ?_ ?_
    · clear h
      (simp -implicitDefEqProofs only [RUNS, qindex, Nat.reduceAdd, Nat.reduceLeDiff, Nat.reduceSub, reduceIte, Nat.reduceEqDiff, Nat.reduceLT, reduceCtorEq, Nat.reduceMul, if_true, if_false, eq_self, ne_eq, env_bT, T_3, T_23, NsOp.pv_eq, Word.pv_eq, Chan.pv_eq, Target.pv_eq, P38_eq, Mount.pv_eq, P31_eq, Ns.pv_eq, eqT_3]); repeat' (split <;> rename_i hb <;> (try simp only [HBS, ge_iff_le, gt_iff_lt] at hb) <;> simp -implicitDefEqProofs only [RUNS, qindex, Nat.reduceAdd, Nat.reduceLeDiff, Nat.reduceSub, reduceIte, Nat.reduceEqDiff, Nat.reduceLT, reduceCtorEq, Nat.reduceMul, if_true, if_false, eq_self, ne_eq, env_bT, T_3, T_23, NsOp.pv_eq, Word.pv_eq, Chan.pv_eq, Target.pv_eq, P38_eq, Mount.pv_eq, P31_eq, Ns.pv_eq, eqT_3, *, decide_true, decide_false, Decidable.not_not, not_false_eq_true, not_true_eq_false])
      all_goals (first | (simp only [BOOLS]; done) | (simp [*]; done) | ((try simp only [CLOS, beq_iff_eq, bne_iff_ne, ne_eq] at *) <;> omega) | (simp_all; done) | (simp_all <;> omega))
    refine AW.seqJ (α := (List Word) × Int) (fun (rest14, x15) => ⟨sl [(2, .ref 0 0), (4, .ref 1 0), (5, .pv (.slice (List.map Word.pv rest14))), (6, .pv (.bool (decide (r8 = 1) || decide (r8 = 2))))], 149, [.var [.pv (.int .i64 0), .pv (.int .i64 0), .pv (.str []), .pv (.str [])], .var [.pv (.int .i64 r8), .pv (.int .i64 x15), .pv (.str []), .pv (.str [])]]⟩) (fun x => F32_j1 r8 x = some (r2, r3)) ?_ ?_
    · intro ⟨rest14, x15⟩ h
      rw [F32_j1] at h
      try dsimp only at h
      show AW _ _ _ _ ⟨sl [(2, .ref 0 0), (4, .ref 1 0), (5, .pv (.slice (List.map Word.pv rest14))), (6, .pv (.bool (decide (r8 = 1) || decide (r8 = 2))))], 149, [.var [.pv (.int .i64 0), .pv (.int .i64 0), .pv (.str []), .pv (.str [])], .var [.pv (.int .i64 r8), .pv (.int .i64 x15), .pv (.str []), .pv (.str [])]]⟩
      refine AW.seq ?_
      refine AW.seq ?_
      replace h := Option.bind_eq_some_iff.1 h; obtain ⟨r16, q17, h⟩ := h
      have f18 := c_F47 rest14 r16 q17
      try dsimp only at f18
      have e19 : ecall O [.var [.pv (.int .i64 0), .pv (.int .i64 0), .pv (.str []), .pv (.str [])], .var [.pv (.int .i64 r8), .pv (.int .i64 x15), .pv (.str []), .pv (.str [])]] 47 [.pv (.slice (List.map Word.pv rest14)), .fn 48 []] = some (retAV [.pv (.bool r16)], [.var [.pv (.int .i64 0), .pv (.int .i64 0), .pv (.str []), .pv (.str [])], .var [.pv (.int .i64 r8), .pv (.int .i64 x15), .pv (.str []), .pv (.str [])]]) := ecall_eq rfl rfl rfl f18 rfl rfl rfl
      refine AW.reg hS [(2, .ref 0 0), (4, .ref 1 0), (5, .pv (.slice (List.map Word.pv rest14))), (6, .pv (.bool (decide (r8 = 1) || decide (r8 = 2)))), (65, .pv (.bool r16))] [.var [.pv (.int .i64 0), .pv (.int .i64 0), .pv (.str []), .pv (.str [])], .var [.pv (.int .i64 r8), .pv (.int .i64 x15), .pv (.str []), .pv (.str [])]] ?_ ?_
      · simp -implicitDefEqProofs only [RUNS, qindex, Nat.reduceAdd, Nat.reduceLeDiff, Nat.reduceSub, reduceIte, Nat.reduceEqDiff, Nat.reduceLT, reduceCtorEq, Nat.reduceMul, if_true, if_false, eq_self, ne_eq, env_bT, T_64, T_77, NsOp.pv_eq, Word.pv_eq, Chan.pv_eq, Target.pv_eq, P38_eq, Mount.pv_eq, P31_eq, Ns.pv_eq, pf_47, e19]
      refine AW.cond (b := r16) rfl (fun hb20 => ?_) (fun hb20 => ?_)
      · replace h := bif_t hb20 h
        refine AW.seq ?_
        refine AW.reg hS [(2, .ref 0 0), (3, .pv (.bool false))] [.var [.pv (.int .i64 0), .pv (.int .i64 0), .pv (.str []), .pv (.str [])], .var [.pv (.int .i64 r8), .pv (.int .i64 x15), .pv (.str []), .pv (.str [])]] ?_ ?_
        · simp -implicitDefEqProofs only [RUNS, qindex, Nat.reduceAdd, Nat.reduceLeDiff, Nat.reduceSub, reduceIte, Nat.reduceEqDiff, Nat.reduceLT, reduceCtorEq, Nat.reduceMul, if_true, if_false, eq_self, ne_eq, env_bT, T_23, NsOp.pv_eq, Word.pv_eq, Chan.pv_eq, Target.pv_eq, P38_eq, Mount.pv_eq, P31_eq, Ns.pv_eq]
        refine AW.ret ?_
        cases h
        show finish _ _ _ _ _ = _
        first | rfl | (simp [finish, resOf, renArgs, toPV, selObjs, sl])
      · replace h := bif_f hb20 h
        refine AW.skip ?_
        refine AW.seqJ (α := Str × Str) (fun (x21, x22) => ⟨sl [(2, .ref 0 0), (4, .ref 1 0), (5, .pv (.slice (List.map Word.pv rest14)))], 149, [.var [.pv (.int .i64 0), .pv (.int .i64 0), .pv (.str []), .pv (.str [])], .var [.pv (.int .i64 r8), .pv (.int .i64 x15), .pv (.str x21), .pv (.str x22)]]⟩) (fun x => F32_j2 rest14 r8 x15 x = some (r2, r3)) ?_ ?_
        · intro ⟨x21, x22⟩ h
          rw [F32_j2] at h
          try dsimp only at h
          show AW _ _ _ _ ⟨sl [(2, .ref 0 0), (4, .ref 1 0), (5, .pv (.slice (List.map Word.pv rest14)))], 149, [.var [.pv (.int .i64 0), .pv (.int .i64 0), .pv (.str []), .pv (.str [])], .var [.pv (.int .i64 r8), .pv (.int .i64 x15), .pv (.str x21), .pv (.str x22)]]⟩
          refine AW.seq ?_
          replace h := Option.bind_eq_some_iff.1 h; obtain ⟨r23, q24, h⟩ := h
          have f25 := fun hg => c_F22 (NsOp.mk r8 x15 x21 x22) r23 (guardO_t q24 hg)
          try dsimp only at f25
          refine AW.dregB mixed hS [(2, some 0), (4, some 1), (129, some 1), (139, some 1), (143, some 1)] rfl (hpf ▸ (by kernel_rfl : orderOKB pfn [(2, some 0), (4, some 1), (129, some 1), (139, some 1), (143, some 1)] _ = true)) [(2, .ref 0 0), (3, .pv (.bool (((decide ((rest14.length : Int) ≤ 2) && r23) && ((decide ((rest14.length : Int) = 0)) == (decide (r8 = 4)))) && (decide ((rest14.length : Int) < 2) || (!decide (x22 = []) && !decide (x21 = []))))))] [.var [.pv (.int .i64 r8), .pv (.int .i64 x15), .pv (.str x21), .pv (.str x22)], .var [.pv (.int .i64 r8), .pv (.int .i64 x15), .pv (.str x21), .pv (.str x22)]] ?_ ?_
          · clear h
            (simp -implicitDefEqProofs only [RUNS, qindex, Nat.reduceAdd, Nat.reduceLeDiff, Nat.reduceSub, reduceIte, Nat.reduceEqDiff, Nat.reduceLT, reduceCtorEq, Nat.reduceMul, if_true, if_false, eq_self, ne_eq, env_bT, T_3, T_4, T_9, T_23, T_64, T_77, NsOp.pv_eq, Word.pv_eq, Chan.pv_eq, Target.pv_eq, P38_eq, Mount.pv_eq, P31_eq, Ns.pv_eq, eqT_3, pf_22, f25, eqT_4, isBoolT_4, eqT_9]); repeat' (split <;> rename_i hb <;> (try simp only [HBS, ge_iff_le, gt_iff_lt] at hb) <;> simp -implicitDefEqProofs only [RUNS, qindex, Nat.reduceAdd, Nat.reduceLeDiff, Nat.reduceSub, reduceIte, Nat.reduceEqDiff, Nat.reduceLT, reduceCtorEq, Nat.reduceMul, if_true, if_false, eq_self, ne_eq, env_bT, T_3, T_4, T_9, T_23, T_64, T_77, NsOp.pv_eq, Word.pv_eq, Chan.pv_eq, Target.pv_eq, P38_eq, Mount.pv_eq, P31_eq, Ns.pv_eq, eqT_3, pf_22, f25, eqT_4, isBoolT_4, eqT_9, *, decide_true, decide_false, Decidable.not_not, not_false_eq_true, not_true_eq_false])
            all_goals (first | (simp only [BOOLS]; done) | (simp [*]; done) | ((try simp only [CLOS, beq_iff_eq, bne_iff_ne, ne_eq] at *) <;> omega) | (simp_all; done) | (simp_all <;> omega))
          refine AW.ret ?_
          cases h
          show finish _ _ _ _ _ = _
          first | rfl | (simp [finish, resOf, renArgs, toPV, selObjs, sl])
        refine AW.block ?_
        refine AW.seq ?_
        refine AW.reg hS [(2, .ref 0 0), (4, .ref 1 0), (5, .pv (.slice (List.map Word.pv rest14))), (67, .pv (.bool (decide ((rest14.length : Int) = 2) && ((decide (r8 = 1) || decide (r8 = 2)) || decide (r8 = 3)))))] [.var [.pv (.int .i64 0), .pv (.int .i64 0), .pv (.str []), .pv (.str [])], .var [.pv (.int .i64 r8), .pv (.int .i64 x15), .pv (.str []), .pv (.str [])]] ?_ ?_
        · clear h
          (simp -implicitDefEqProofs only [RUNS, qindex, Nat.reduceAdd, Nat.reduceLeDiff, Nat.reduceSub, reduceIte, Nat.reduceEqDiff, Nat.reduceLT, reduceCtorEq, Nat.reduceMul, if_true, if_false, eq_self, ne_eq, env_bT, T_3, T_23, T_64, T_77, NsOp.pv_eq, Word.pv_eq, Chan.pv_eq, Target.pv_eq, P38_eq, Mount.pv_eq, P31_eq, Ns.pv_eq, eqT_3]); repeat' (split <;> rename_i hb <;> (try simp only [HBS, ge_iff_le, gt_iff_lt] at hb) <;> simp -implicitDefEqProofs only [RUNS, qindex, Nat.reduceAdd, Nat.reduceLeDiff, Nat.reduceSub, reduceIte, Nat.reduceEqDiff, Nat.reduceLT, reduceCtorEq, Nat.reduceMul, if_true, if_false, eq_self, ne_eq, env_bT, T_3, T_23, T_64, T_77, NsOp.pv_eq, Word.pv_eq, Chan.pv_eq, Target.pv_eq, P38_eq, Mount.pv_eq, P31_eq, Ns.pv_eq, eqT_3, *, decide_true, decide_false, Decidable.not_not, not_false_eq_true, not_true_eq_false])
          all_goals (first | (simp only [BOOLS]; done) | (simp [*]; done) | ((try simp only [CLOS, beq_iff_eq, bne_iff_ne, ne_eq] at *) <;> omega) | (simp_all; done) | (simp_all <;> omega))
        refine AW.cond (b := (decide ((rest14.length : Int) = 2) && ((decide (r8 = 1) || decide (r8 = 2)) || decide (r8 = 3)))) rfl (fun hb26 => ?_) (fun hb26 => ?_)
        · replace h := bif_t hb26 h
          replace h := Option.bind_eq_some_iff.1 h; obtain ⟨u27, q28, h⟩ := h
          have f29 := lidx_f q28
          replace h := Option.bind_eq_some_iff.1 h; obtain ⟨u30, q31, h⟩ := h
          have f32 := lidx_f q31
          refine AW.dregB mixed hS [(4, some 1), (80, none), (81, none), (84, none), (85, none), (87, some 1), (88, some 1)] rfl (hpf ▸ (by kernel_rfl : orderOKB pfn [(4, some 1), (80, none), (81, none), (84, none), (85, none), (87, some 1), (88, some 1)] _ = true)) [(2, .ref 0 0), (4, .ref 1 0), (5, .pv (.slice (List.map Word.pv rest14)))] [.var [.pv (.int .i64 0), .pv (.int .i64 0), .pv (.str []), .pv (.str [])], .var [.pv (.int .i64 r8), .pv (.int .i64 x15), .pv (.str u27.text_), .pv (.str u30.text_)]] ?_ ?_
          · simp -implicitDefEqProofs only [RUNS, qindex, Nat.reduceAdd, Nat.reduceLeDiff, Nat.reduceSub, reduceIte, Nat.reduceEqDiff, Nat.reduceLT, reduceCtorEq, Nat.reduceMul, if_true, if_false, eq_self, ne_eq, env_bT, T_9, T_23, T_64, T_77, NsOp.pv_eq, Word.pv_eq, Chan.pv_eq, Target.pv_eq, P38_eq, Mount.pv_eq, P31_eq, Ns.pv_eq, f29.1, f29.2.1, f32.1, f32.2.1]
          exact ⟨(u27.text_, u30.text_), h, (Weak.norm (m := 2) (Nat.le_of_ble_eq_true rfl) ⟨rfl, rfl, rfl, trivial⟩ rfl rfl rfl)⟩
        · replace h := bif_f hb26 h
          refine AW.seq ?_
          refine AW.reg hS [(2, .ref 0 0), (4, .ref 1 0), (5, .pv (.slice (List.map Word.pv rest14))), (89, .pv (.bool (decide ((rest14.length : Int) = 1) && decide (r8 = 3))))] [.var [.pv (.int .i64 0), .pv (.int .i64 0), .pv (.str []), .pv (.str [])], .var [.pv (.int .i64 r8), .pv (.int .i64 x15), .pv (.str []), .pv (.str [])]] ?_ ?_
          · clear h
            (simp -implicitDefEqProofs only [RUNS, qindex, Nat.reduceAdd, Nat.reduceLeDiff, Nat.reduceSub, reduceIte, Nat.reduceEqDiff, Nat.reduceLT, reduceCtorEq, Nat.reduceMul, if_true, if_false, eq_self, ne_eq, env_bT, T_3, T_23, T_64, T_77, NsOp.pv_eq, Word.pv_eq, Chan.pv_eq, Target.pv_eq, P38_eq, Mount.pv_eq, P31_eq, Ns.pv_eq, eqT_3]); repeat' (split <;> rename_i hb <;> (try simp only [HBS, ge_iff_le, gt_iff_lt] at hb) <;> simp -implicitDefEqProofs only [RUNS, qindex, Nat.reduceAdd, Nat.reduceLeDiff, Nat.reduceSub, reduceIte, Nat.reduceEqDiff, Nat.reduceLT, reduceCtorEq, Nat.reduceMul, if_true, if_false, eq_self, ne_eq, env_bT, T_3, T_23, T_64, T_77, NsOp.pv_eq, Word.pv_eq, Chan.pv_eq, Target.pv_eq, P38_eq, Mount.pv_eq, P31_eq, Ns.pv_eq, eqT_3, *, decide_true, decide_false, Decidable.not_not, not_false_eq_true, not_true_eq_false])
            all_goals (first | (simp only [BOOLS]; done) | (simp [*]; done) | ((try simp only [CLOS, beq_iff_eq, bne_iff_ne, ne_eq] at *) <;> omega) | (simp_all; done) | (simp_all <;> omega))
          refine AW.cond (b := (decide ((rest14.length : Int) = 1) && decide (r8 = 3))) rfl (fun hb33 => ?_) (fun hb33 => ?_)
          · replace h := bif_t hb33 h
            replace h := Option.bind_eq_some_iff.1 h; obtain ⟨u34, q35, h⟩ := h
            have f36 := lidx_f q35
            refine AW.reg hS [(2, .ref 0 0), (4, .ref 1 0), (5, .pv (.slice (List.map Word.pv rest14)))] [.var [.pv (.int .i64 0), .pv (.int .i64 0), .pv (.str []), .pv (.str [])], .var [.pv (.int .i64 r8), .pv (.int .i64 x15), .pv (.str []), .pv (.str u34.text_)]] ?_ ?_
            · simp -implicitDefEqProofs only [RUNS, qindex, Nat.reduceAdd, Nat.reduceLeDiff, Nat.reduceSub, reduceIte, Nat.reduceEqDiff, Nat.reduceLT, reduceCtorEq, Nat.reduceMul, if_true, if_false, eq_self, ne_eq, env_bT, T_9, T_23, T_64, T_77, NsOp.pv_eq, Word.pv_eq, Chan.pv_eq, Target.pv_eq, P38_eq, Mount.pv_eq, P31_eq, Ns.pv_eq, f36.1, f36.2.1]
            exact ⟨([], u34.text_), h, (Weak.norm (m := 2) (Nat.le_of_ble_eq_true rfl) ⟨rfl, rfl, rfl, trivial⟩ rfl rfl rfl)⟩
          · replace h := bif_f hb33 h
            refine AW.seq ?_
            refine AW.reg hS [(2, .ref 0 0), (4, .ref 1 0), (5, .pv (.slice (List.map Word.pv rest14))), (103, .pv (.bool (decide ((rest14.length : Int) = 1) && decide (r8 = 5))))] [.var [.pv (.int .i64 0), .pv (.int .i64 0), .pv (.str []), .pv (.str [])], .var [.pv (.int .i64 r8), .pv (.int .i64 x15), .pv (.str []), .pv (.str [])]] ?_ ?_
            · clear h
              (simp -implicitDefEqProofs only [RUNS, qindex, Nat.reduceAdd, Nat.reduceLeDiff, Nat.reduceSub, reduceIte, Nat.reduceEqDiff, Nat.reduceLT, reduceCtorEq, Nat.reduceMul, if_true, if_false, eq_self, ne_eq, env_bT, T_3, T_23, T_64, T_77, NsOp.pv_eq, Word.pv_eq, Chan.pv_eq, Target.pv_eq, P38_eq, Mount.pv_eq, P31_eq, Ns.pv_eq, eqT_3]); repeat' (split <;> rename_i hb <;> (try simp only [HBS, ge_iff_le, gt_iff_lt] at hb) <;> simp -implicitDefEqProofs only [RUNS, qindex, Nat.reduceAdd, Nat.reduceLeDiff, Nat.reduceSub, reduceIte, Nat.reduceEqDiff, Nat.reduceLT, reduceCtorEq, Nat.reduceMul, if_true, if_false, eq_self, ne_eq, env_bT, T_3, T_23, T_64, T_77, NsOp.pv_eq, Word.pv_eq, Chan.pv_eq, Target.pv_eq, P38_eq, Mount.pv_eq, P31_eq, Ns.pv_eq, eqT_3, *, decide_true, decide_false, Decidable.not_not, not_false_eq_true, not_true_eq_false])
              all_goals (first | (simp only [BOOLS]; done) | (simp [*]; done) | ((try simp only [CLOS, beq_iff_eq, bne_iff_ne, ne_eq] at *) <;> omega) | (simp_all; done) | (simp_all <;> omega))
            refine AW.cond (b := (decide ((rest14.length : Int) = 1) && decide (r8 = 5))) rfl (fun hb37 => ?_) (fun hb37 => ?_)
            · replace h := bif_t hb37 h
              replace h := Option.bind_eq_some_iff.1 h; obtain ⟨u38, q39, h⟩ := h
              have f40 := lidx_f q39
              refine AW.reg hS [(2, .ref 0 0), (4, .ref 1 0), (5, .pv (.slice (List.map Word.pv rest14)))] [.var [.pv (.int .i64 0), .pv (.int .i64 0), .pv (.str []), .pv (.str [])], .var [.pv (.int .i64 r8), .pv (.int .i64 x15), .pv (.str u38.text_), .pv (.str [])]] ?_ ?_
              · simp -implicitDefEqProofs only [RUNS, qindex, Nat.reduceAdd, Nat.reduceLeDiff, Nat.reduceSub, reduceIte, Nat.reduceEqDiff, Nat.reduceLT, reduceCtorEq, Nat.reduceMul, if_true, if_false, eq_self, ne_eq, env_bT, T_9, T_23, T_64, T_77, NsOp.pv_eq, Word.pv_eq, Chan.pv_eq, Target.pv_eq, P38_eq, Mount.pv_eq, P31_eq, Ns.pv_eq, f40.1, f40.2.1]
              exact ⟨(u38.text_, []), h, (Weak.norm (m := 2) (Nat.le_of_ble_eq_true rfl) ⟨rfl, rfl, rfl, trivial⟩ rfl rfl rfl)⟩
            · replace h := bif_f hb37 h
              refine AW.skip ?_
              exact ⟨([], []), h, (Weak.norm (m := 2) (Nat.le_of_ble_eq_true rfl) ⟨rfl, rfl, rfl, trivial⟩ rfl rfl rfl)⟩
    refine AW.seq ?_
    replace h := Option.bind_eq_some_iff.1 h; obtain ⟨u41, q42, h⟩ := h
    have f43 := lidx_g (guardO_t q42)
    replace h := Option.bind_eq_some_iff.1 h; obtain ⟨r44, q45, h⟩ := h
    have f46 := fun hg => c_F45 u41.text_ [45] r44 (guardO_t q45 hg)
    try dsimp only at f46
    try simp only [List.map_cons, List.map_nil, NsOp.pv_eq, Word.pv_eq, Chan.pv_eq, Target.pv_eq, P38_eq, Mount.pv_eq, P31_eq, Ns.pv_eq] at f46
    refine AW.reg hS [(2, .ref 0 0), (4, .ref 1 0), (5, .pv (.slice (List.map Word.pv l11))), (6, .pv (.bool (decide (r8 = 1) || decide (r8 = 2)))), (48, .pv (.bool ((((decide (r8 = 1) || decide (r8 = 2)) && decide (0 < (l11.length : Int))) && !u41.quoted_) && r44)))] [.var [.pv (.int .i64 0), .pv (.int .i64 0), .pv (.str []), .pv (.str [])], .var [.pv (.int .i64 r8), .pv (.int .i64 0), .pv (.str []), .pv (.str [])]] ?_ ?_
    · clear h
      (simp -implicitDefEqProofs only [RUNS, qindex, Nat.reduceAdd, Nat.reduceLeDiff, Nat.reduceSub, reduceIte, Nat.reduceEqDiff, Nat.reduceLT, reduceCtorEq, Nat.reduceMul, if_true, if_false, eq_self, ne_eq, env_bT, T_3, T_4, T_9, T_64, T_77, NsOp.pv_eq, Word.pv_eq, Chan.pv_eq, Target.pv_eq, P38_eq, Mount.pv_eq, P31_eq, Ns.pv_eq, eqT_3, f43.1, f43.2.1, pf_45, f46]); repeat' (split <;> rename_i hb <;> (try simp only [HBS, ge_iff_le, gt_iff_lt] at hb) <;> simp -implicitDefEqProofs only [RUNS, qindex, Nat.reduceAdd, Nat.reduceLeDiff, Nat.reduceSub, reduceIte, Nat.reduceEqDiff, Nat.reduceLT, reduceCtorEq, Nat.reduceMul, if_true, if_false, eq_self, ne_eq, env_bT, T_3, T_4, T_9, T_64, T_77, NsOp.pv_eq, Word.pv_eq, Chan.pv_eq, Target.pv_eq, P38_eq, Mount.pv_eq, P31_eq, Ns.pv_eq, eqT_3, f43.1, f43.2.1, pf_45, f46, *, decide_true, decide_false, Decidable.not_not, not_false_eq_true, not_true_eq_false])
      all_goals (first | (simp only [BOOLS]; done) | (simp [*]; done) | ((try simp only [CLOS, beq_iff_eq, bne_iff_ne, ne_eq] at *) <;> omega) | (simp_all; done) | (simp_all <;> omega))
    refine AW.cond (b := ((((decide (r8 = 1) || decide (r8 = 2)) && decide (0 < (l11.length : Int))) && !u41.quoted_) && r44)) rfl (fun hb47 => ?_) (fun hb47 => ?_)
    · replace h := bif_t hb47 h
      refine AW.seq ?_
      replace h := Option.bind_eq_some_iff.1 h; obtain ⟨u48, q49, h⟩ := h
      have f50 := lidx_f q49
      replace h := Option.bind_eq_some_iff.1 h; obtain ⟨⟨r51, r52⟩, q53, h⟩ := h
      dsimp only at h
      have f54 := c_F46 u48.text_ r51 r52 q53
      try dsimp only at f54
      refine AW.reg hS [(2, .ref 0 0), (4, .ref 1 0), (5, .pv (.slice (List.map Word.pv l11))), (6, .pv (.bool (decide (r8 = 1) || decide (r8 = 2)))), (7, .pv (.int .i64 r51)), (8, .pv (.bool r52))] [.var [.pv (.int .i64 0), .pv (.int .i64 0), .pv (.str []), .pv (.str [])], .var [.pv (.int .i64 r8), .pv (.int .i64 0), .pv (.str []), .pv (.str [])]] ?_ ?_
      · simp -implicitDefEqProofs only [RUNS, qindex, Nat.reduceAdd, Nat.reduceLeDiff, Nat.reduceSub, reduceIte, Nat.reduceEqDiff, Nat.reduceLT, reduceCtorEq, Nat.reduceMul, if_true, if_false, eq_self, ne_eq, env_bT, T_9, T_64, T_77, NsOp.pv_eq, Word.pv_eq, Chan.pv_eq, Target.pv_eq, P38_eq, Mount.pv_eq, P31_eq, Ns.pv_eq, f50.1, f50.2.1, pf_46, f54]
      refine AW.seq ?_
      refine AW.seq ?_
      refine AW.reg hS [(2, .ref 0 0), (4, .ref 1 0), (5, .pv (.slice (List.map Word.pv l11))), (6, .pv (.bool (decide (r8 = 1) || decide (r8 = 2)))), (7, .pv (.int .i64 r51)), (58, .pv (.bool (!r52)))] [.var [.pv (.int .i64 0), .pv (.int .i64 0), .pv (.str []), .pv (.str [])], .var [.pv (.int .i64 r8), .pv (.int .i64 0), .pv (.str []), .pv (.str [])]] ?_ ?_
      · simp -implicitDefEqProofs only [RUNS, qindex, Nat.reduceAdd, Nat.reduceLeDiff, Nat.reduceSub, reduceIte, Nat.reduceEqDiff, Nat.reduceLT, reduceCtorEq, Nat.reduceMul, if_true, if_false, eq_self, ne_eq, env_bT, NsOp.pv_eq, Word.pv_eq, Chan.pv_eq, Target.pv_eq, P38_eq, Mount.pv_eq, P31_eq, Ns.pv_eq]
      refine AW.cond (b := !r52) rfl (fun hb55 => ?_) (fun hb55 => ?_)
      · replace h := bif_t hb55 h
        refine AW.seq ?_
        refine AW.reg hS [(2, .ref 0 0), (3, .pv (.bool false))] [.var [.pv (.int .i64 0), .pv (.int .i64 0), .pv (.str []), .pv (.str [])], .var [.pv (.int .i64 r8), .pv (.int .i64 0), .pv (.str []), .pv (.str [])]] ?_ ?_
        · simp -implicitDefEqProofs only [RUNS, qindex, Nat.reduceAdd, Nat.reduceLeDiff, Nat.reduceSub, reduceIte, Nat.reduceEqDiff, Nat.reduceLT, reduceCtorEq, Nat.reduceMul, if_true, if_false, eq_self, ne_eq, env_bT, T_23, NsOp.pv_eq, Word.pv_eq, Chan.pv_eq, Target.pv_eq, P38_eq, Mount.pv_eq, P31_eq, Ns.pv_eq]
        refine AW.ret ?_
        cases h
        show finish _ _ _ _ _ = _
        first | rfl | (simp [finish, resOf, renArgs, toPV, selObjs, sl])
      · replace h := bif_f hb55 h
        refine AW.skip ?_
        refine AW.seq ?_
        refine AW.reg hS [(2, .ref 0 0), (4, .ref 1 0), (5, .pv (.slice (List.map Word.pv l11))), (6, .pv (.bool (decide (r8 = 1) || decide (r8 = 2))))] [.var [.pv (.int .i64 0), .pv (.int .i64 0), .pv (.str []), .pv (.str [])], .var [.pv (.int .i64 r8), .pv (.int .i64 r51), .pv (.str []), .pv (.str [])]] ?_ ?_
        · simp -implicitDefEqProofs only [RUNS, qindex, Nat.reduceAdd, Nat.reduceLeDiff, Nat.reduceSub, reduceIte, Nat.reduceEqDiff, Nat.reduceLT, reduceCtorEq, Nat.reduceMul, if_true, if_false, eq_self, ne_eq, env_bT, T_3, T_23, NsOp.pv_eq, Word.pv_eq, Chan.pv_eq, Target.pv_eq, P38_eq, Mount.pv_eq, P31_eq, Ns.pv_eq]
        replace h := Option.bind_eq_some_iff.1 h; obtain ⟨l56, q57, h⟩ := h
        have f58 := lslice_f q57
        have f58l := f58.2.2.1
        try simp only [Int.toNat_natCast, Int.toNat_zero] at f58l
        refine AW.reg hS [(2, .ref 0 0), (4, .ref 1 0), (5, .pv (.slice (List.map Word.pv l56))), (6, .pv (.bool (decide (r8 = 1) || decide (r8 = 2))))] [.var [.pv (.int .i64 0), .pv (.int .i64 0), .pv (.str []), .pv (.str [])], .var [.pv (.int .i64 r8), .pv (.int .i64 r51), .pv (.str []), .pv (.str [])]] ?_ ?_
        · simp -implicitDefEqProofs only [RUNS, qindex, Nat.reduceAdd, Nat.reduceLeDiff, Nat.reduceSub, reduceIte, Nat.reduceEqDiff, Nat.reduceLT, reduceCtorEq, Nat.reduceMul, if_true, if_false, eq_self, ne_eq, env_bT, T_64, T_77, NsOp.pv_eq, Word.pv_eq, Chan.pv_eq, Target.pv_eq, P38_eq, Mount.pv_eq, P31_eq, Ns.pv_eq, f58.1, f58.2.1, f58l, f58.2.2.2.1, f58.2.2.2.2, List.map_take, List.map_drop, List.length_map, Int.toNat_natCast, Int.toNat_zero, Word.all] <;> simp only [List.length_take, List.length_drop, List.length_map]
        clear f58 f58l
        exact ⟨(l56, r51), h, (Weak.norm (m := 2) (Nat.le_of_ble_eq_true rfl) ⟨rfl, rfl, rfl, rfl, trivial⟩ rfl rfl rfl)⟩
    · replace h := bif_f hb47 h
      refine AW.skip ?_
      exact ⟨(l11, 0), h, (Weak.norm (m := 2) (Nat.le_of_ble_eq_true rfl) ⟨rfl, rfl, rfl, rfl, trivial⟩ rfl rfl rfl)⟩

end Go.Abs.U45
