/- The layer 5 laws: the functions walked. -/
import Derived.Test.YtibmhmnhiflmjaaDoorD1
set_option linter.unusedSimpArgs false
namespace Go.Abs.U05
open Go.RowKit Go.Proofs

set_option maxHeartbeats 4000000 in
theorem g_F35 {O : Orc} (hS : Sound env O) (hpf : O.pf = pfn) (l1 : List User) (name2 : Str) (r3 : Int) (h : F35 l1 name2 = some r3) : Good env 35 [.pv (.slice (List.map User.pv l1)), .pv (.str name2)] [] [.pv (.int .i64 r3)] [] := by
  refine Good.start (fn := Tryd.f35) (N := 20) rfl rfl rfl (by simp) [] _ rfl rfl ?_
  rw [F35] at h
  refine AW.seq ?_
  refine AW.reg hS [(0, .pv (.slice (List.map User.pv l1))), (1, .pv (.str name2))] [] ?_ ?_
  · simp -implicitDefEqProofs only [RUNS, qindex, Nat.reduceAdd, Nat.reduceLeDiff, Nat.reduceSub, reduceIte, Nat.reduceEqDiff, Nat.reduceLT, reduceCtorEq, Nat.reduceMul, if_true, if_false, eq_self, ne_eq, env_bT, P30_eq, User.pv_eq]
  refine AW.seq ?_
  refine AW.seq ?_
  refine AW.reg hS [(0, .pv (.slice (List.map User.pv l1))), (1, .pv (.str name2)), (7, .pv (.int .i64 (l1.length : Int))), (8, .pv (.int .i64 0))] [] ?_ ?_
  · simp -implicitDefEqProofs only [RUNS, qindex, Nat.reduceAdd, Nat.reduceLeDiff, Nat.reduceSub, reduceIte, Nat.reduceEqDiff, Nat.reduceLT, reduceCtorEq, Nat.reduceMul, if_true, if_false, eq_self, ne_eq, env_bT, T_24, T_32, P30_eq, User.pv_eq]
  refine AW.block ?_
  refine AW.weak (Weak.slots (L := [(0, .pv (.slice (List.map User.pv l1))), (1, .pv (.str name2)), (7, .pv (.int .i64 (l1.length : Int))), (8, .pv (.int .i64 0))]) ⟨rfl, rfl, rfl, rfl, trivial⟩) ?_
  refine AW.loopI (α := Nat × Int) (fun (_, i4) => ⟨sl [(0, .pv (.slice (List.map User.pv l1))), (1, .pv (.str name2)), (7, .pv (.int .i64 (l1.length : Int))), (8, .pv (.int .i64 i4))], 20, []⟩) (fun x => iter (F35_b1 l1 name2) x.1 x.2 = some r3) (fun x => x.1) (BIG, 0) h ?_
  clear h
  intro ⟨n13, i4⟩ h
  replace h := iter_some h; obtain ⟨m7, rfl, h⟩ := h
  rw [F35_b1] at h
  try dsimp only at h
  show AW _ _ _ _ ⟨sl [(0, .pv (.slice (List.map User.pv l1))), (1, .pv (.str name2)), (7, .pv (.int .i64 (l1.length : Int))), (8, .pv (.int .i64 i4))], 20, []⟩
  refine AW.seq ?_
  refine AW.reg hS [(0, .pv (.slice (List.map User.pv l1))), (1, .pv (.str name2)), (7, .pv (.int .i64 (l1.length : Int))), (8, .pv (.int .i64 i4)), (9, .pv (.bool (decide (i4 < (l1.length : Int)))))] [] ?_ ?_
  · simp -implicitDefEqProofs only [RUNS, qindex, Nat.reduceAdd, Nat.reduceLeDiff, Nat.reduceSub, reduceIte, Nat.reduceEqDiff, Nat.reduceLT, reduceCtorEq, Nat.reduceMul, if_true, if_false, eq_self, ne_eq, env_bT, T_3, P30_eq, User.pv_eq]
  refine AW.seq ?_
  refine AW.cond (b := decide (i4 < (l1.length : Int))) rfl (fun hb8 => ?_) (fun hb8 => ?_)
  · replace h := bif_t hb8 h
    refine AW.skip ?_
    refine AW.seq ?_
    refine AW.block ?_
    refine AW.seq ?_
    refine AW.reg hS [(0, .pv (.slice (List.map User.pv l1))), (1, .pv (.str name2)), (5, .pv (.int .i64 i4)), (7, .pv (.int .i64 (l1.length : Int))), (8, .pv (.int .i64 i4))] [] ?_ ?_
    · simp -implicitDefEqProofs only [RUNS, qindex, Nat.reduceAdd, Nat.reduceLeDiff, Nat.reduceSub, reduceIte, Nat.reduceEqDiff, Nat.reduceLT, reduceCtorEq, Nat.reduceMul, if_true, if_false, eq_self, ne_eq, env_bT, P30_eq, User.pv_eq]
    refine AW.seq ?_
    replace h := Option.bind_eq_some_iff.1 h; obtain ⟨u9, q10, h⟩ := h
    have f11 := lidx_f q10
    refine AW.reg hS [(0, .pv (.slice (List.map User.pv l1))), (1, .pv (.str name2)), (5, .pv (.int .i64 i4)), (7, .pv (.int .i64 (l1.length : Int))), (8, .pv (.int .i64 i4)), (17, .pv (.bool (decide (u9.name_ = name2))))] [] ?_ ?_
    · simp -implicitDefEqProofs only [RUNS, qindex, Nat.reduceAdd, Nat.reduceLeDiff, Nat.reduceSub, reduceIte, Nat.reduceEqDiff, Nat.reduceLT, reduceCtorEq, Nat.reduceMul, if_true, if_false, eq_self, ne_eq, env_bT, T_9, T_24, T_32, P30_eq, User.pv_eq, f11.1, f11.2.1]
    refine AW.cond (b := decide (u9.name_ = name2)) rfl (fun hb12 => ?_) (fun hb12 => ?_)
    · replace h := bif_t hb12 h
      refine AW.seq ?_
      refine AW.reg hS [(4, .pv (.int .i64 i4))] [] ?_ ?_
      · simp -implicitDefEqProofs only [RUNS, qindex, Nat.reduceAdd, Nat.reduceLeDiff, Nat.reduceSub, reduceIte, Nat.reduceEqDiff, Nat.reduceLT, reduceCtorEq, Nat.reduceMul, if_true, if_false, eq_self, ne_eq, env_bT, P30_eq, User.pv_eq]
      refine AW.ret ?_
      cases h
      show finish _ _ _ _ _ = _
      first | rfl | (simp [finish, resOf, renArgs, toPV, selObjs, sl])
    · replace h := bif_f hb12 h
      refine AW.skip ?_
      refine AW.reg hS [(0, .pv (.slice (List.map User.pv l1))), (1, .pv (.str name2)), (7, .pv (.int .i64 (l1.length : Int))), (8, .pv (.int .i64 (IntKind.wrap .i64 (i4 + 1))))] [] ?_ ?_
      · simp -implicitDefEqProofs only [RUNS, qindex, Nat.reduceAdd, Nat.reduceLeDiff, Nat.reduceSub, reduceIte, Nat.reduceEqDiff, Nat.reduceLT, reduceCtorEq, Nat.reduceMul, if_true, if_false, eq_self, ne_eq, env_bT, T_3, P30_eq, User.pv_eq]
      exact ⟨(m7, IntKind.wrap .i64 (i4 + 1)), h, (Weak.norm (m := 0) (Nat.le_of_ble_eq_true rfl) ⟨rfl, rfl, rfl, rfl, trivial⟩ rfl rfl rfl), Nat.lt_succ_self _⟩
  · replace h := bif_f hb8 h
    refine AW.exit ?_
    refine AW.seq ?_
    refine AW.reg hS [(4, .pv (.int .i64 (-1)))] [] ?_ ?_
    · simp -implicitDefEqProofs only [RUNS, qindex, Nat.reduceAdd, Nat.reduceLeDiff, Nat.reduceSub, reduceIte, Nat.reduceEqDiff, Nat.reduceLT, reduceCtorEq, Nat.reduceMul, if_true, if_false, eq_self, ne_eq, env_bT, P30_eq, User.pv_eq]
    refine AW.ret ?_
    cases h
    show finish _ _ _ _ _ = _
    first | rfl | (simp [finish, resOf, renArgs, toPV, selObjs, sl])

set_option maxHeartbeats 4000000 in
theorem g_F33 {O : Orc} (hS : Sound env O) (hpf : O.pf = pfn) (c_F12 : C_F12 O) (c_F35 : C_F35 O) (l1 : List User) (i2 : Int) (r3 : Int) (h : F33 l1 i2 = some r3) : Good env 33 [.pv (.slice (List.map User.pv l1)), .pv (.int .i64 i2)] [] [.pv (.int .i64 r3)] [] := by
  have pf_12 : O.pf 12 = true := by rw [hpf]; rfl
  have pf_35 : O.pf 35 = true := by rw [hpf]; rfl
  refine Good.start (fn := Tryd.f33) (N := 67) rfl rfl rfl (by simp) [] _ rfl rfl ?_
  rw [F33] at h
  refine AW.seq ?_
  refine AW.reg hS [(0, .pv (.slice (List.map User.pv l1))), (1, .pv (.int .i64 i2))] [] ?_ ?_
  · simp -implicitDefEqProofs only [RUNS, qindex, Nat.reduceAdd, Nat.reduceLeDiff, Nat.reduceSub, reduceIte, Nat.reduceEqDiff, Nat.reduceLT, reduceCtorEq, Nat.reduceMul, if_true, if_false, eq_self, ne_eq, env_bT, P30_eq, User.pv_eq]
  refine AW.seq ?_
  replace h := Option.bind_eq_some_iff.1 h; obtain ⟨u4, q5, h⟩ := h
  have f6 := lidx_f q5
  refine AW.reg hS [(0, .pv (.slice (List.map User.pv l1))), (1, .pv (.int .i64 i2)), (5, .ref 0 0)] [.var [.pv (.str u4.name_), .pv (.str u4.leader_), .pv (.slice (List.map PV.str u4.members_))]] ?_ ?_
  · simp -implicitDefEqProofs only [RUNS, qindex, Nat.reduceAdd, Nat.reduceLeDiff, Nat.reduceSub, reduceIte, Nat.reduceEqDiff, Nat.reduceLT, reduceCtorEq, Nat.reduceMul, if_true, if_false, eq_self, ne_eq, env_bT, T_24, T_32, P30_eq, User.pv_eq, f6.1, f6.2.1]
  refine AW.seq ?_
  refine AW.block ?_
  refine AW.seq ?_
  replace h := Option.bind_eq_some_iff.1 h; obtain ⟨r7, q8, h⟩ := h
  have f9 := c_F12 u4.name_ r7 q8
  try dsimp only at f9
  refine AW.reg hS [(0, .pv (.slice (List.map User.pv l1))), (1, .pv (.int .i64 i2)), (5, .ref 0 0), (11, .pv (.bool (!r7)))] [.var [.pv (.str u4.name_), .pv (.str u4.leader_), .pv (.slice (List.map PV.str u4.members_))]] ?_ ?_
  · simp -implicitDefEqProofs only [RUNS, qindex, Nat.reduceAdd, Nat.reduceLeDiff, Nat.reduceSub, reduceIte, Nat.reduceEqDiff, Nat.reduceLT, reduceCtorEq, Nat.reduceMul, if_true, if_false, eq_self, ne_eq, env_bT, T_9, T_32, P30_eq, User.pv_eq, pf_12, f9]
  refine AW.cond (b := !r7) rfl (fun hb10 => ?_) (fun hb10 => ?_)
  · replace h := bif_t hb10 h
    refine AW.seq ?_
    refine AW.reg hS [(4, .pv (.int .i64 25))] [.var [.pv (.str u4.name_), .pv (.str u4.leader_), .pv (.slice (List.map PV.str u4.members_))]] ?_ ?_
    · simp -implicitDefEqProofs only [RUNS, qindex, Nat.reduceAdd, Nat.reduceLeDiff, Nat.reduceSub, reduceIte, Nat.reduceEqDiff, Nat.reduceLT, reduceCtorEq, Nat.reduceMul, if_true, if_false, eq_self, ne_eq, env_bT, P30_eq, User.pv_eq]
    refine AW.ret ?_
    cases h
    show finish _ _ _ _ _ = _
    first | rfl | (simp [finish, resOf, renArgs, toPV, selObjs, sl])
  · replace h := bif_f hb10 h
    refine AW.seq ?_
    replace h := Option.bind_eq_some_iff.1 h; obtain ⟨r11, q12, h⟩ := h
    have f13 := c_F35 l1 u4.name_ r11 q12
    try dsimp only at f13
    refine AW.reg hS [(0, .pv (.slice (List.map User.pv l1))), (5, .ref 0 0), (16, .pv (.bool (decide (r11 < i2))))] [.var [.pv (.str u4.name_), .pv (.str u4.leader_), .pv (.slice (List.map PV.str u4.members_))]] ?_ ?_
    · simp -implicitDefEqProofs only [RUNS, qindex, Nat.reduceAdd, Nat.reduceLeDiff, Nat.reduceSub, reduceIte, Nat.reduceEqDiff, Nat.reduceLT, reduceCtorEq, Nat.reduceMul, if_true, if_false, eq_self, ne_eq, env_bT, T_3, T_9, T_24, T_32, P30_eq, User.pv_eq, pf_35, f13]
    refine AW.cond (b := decide (r11 < i2)) rfl (fun hb14 => ?_) (fun hb14 => ?_)
    · replace h := bif_t hb14 h
      refine AW.seq ?_
      refine AW.reg hS [(4, .pv (.int .i64 7))] [.var [.pv (.str u4.name_), .pv (.str u4.leader_), .pv (.slice (List.map PV.str u4.members_))]] ?_ ?_
      · simp -implicitDefEqProofs only [RUNS, qindex, Nat.reduceAdd, Nat.reduceLeDiff, Nat.reduceSub, reduceIte, Nat.reduceEqDiff, Nat.reduceLT, reduceCtorEq, Nat.reduceMul, if_true, if_false, eq_self, ne_eq, env_bT, P30_eq, User.pv_eq]
      refine AW.ret ?_
      cases h
      show finish _ _ _ _ _ = _
      first | rfl | (simp [finish, resOf, renArgs, toPV, selObjs, sl])
    · replace h := bif_f hb14 h
      refine AW.seq ?_
      replace h := Option.bind_eq_some_iff.1 h; obtain ⟨r15, q16, h⟩ := h
      have f17 := fun hg => c_F35 l1 u4.leader_ r15 (guardO_t q16 hg)
      try dsimp only at f17
      refine AW.reg hS [(0, .pv (.slice (List.map User.pv l1))), (5, .ref 0 0), (23, .pv (.bool (!decide (u4.leader_ = []) && decide (r15 < 0))))] [.var [.pv (.str u4.name_), .pv (.str u4.leader_), .pv (.slice (List.map PV.str u4.members_))]] ?_ ?_
      · clear h
        (simp -implicitDefEqProofs only [RUNS, qindex, Nat.reduceAdd, Nat.reduceLeDiff, Nat.reduceSub, reduceIte, Nat.reduceEqDiff, Nat.reduceLT, reduceCtorEq, Nat.reduceMul, if_true, if_false, eq_self, ne_eq, env_bT, T_3, T_9, T_24, T_32, P30_eq, User.pv_eq, pf_35, f17]); repeat' (split <;> rename_i hb <;> (try simp only [HBS, ge_iff_le, gt_iff_lt] at hb) <;> simp -implicitDefEqProofs only [RUNS, qindex, Nat.reduceAdd, Nat.reduceLeDiff, Nat.reduceSub, reduceIte, Nat.reduceEqDiff, Nat.reduceLT, reduceCtorEq, Nat.reduceMul, if_true, if_false, eq_self, ne_eq, env_bT, T_3, T_9, T_24, T_32, P30_eq, User.pv_eq, pf_35, f17, *, decide_true, decide_false, Decidable.not_not, not_false_eq_true, not_true_eq_false])
        all_goals (first | (simp only [BOOLS]; done) | (simp [*]; done) | ((try simp only [CLOS, beq_iff_eq, bne_iff_ne, ne_eq] at *) <;> omega) | (simp_all; done) | (simp_all <;> omega))
      refine AW.cond (b := (!decide (u4.leader_ = []) && decide (r15 < 0))) rfl (fun hb18 => ?_) (fun hb18 => ?_)
      · replace h := bif_t hb18 h
        refine AW.seq ?_
        refine AW.reg hS [(4, .pv (.int .i64 26))] [.var [.pv (.str u4.name_), .pv (.str u4.leader_), .pv (.slice (List.map PV.str u4.members_))]] ?_ ?_
        · simp -implicitDefEqProofs only [RUNS, qindex, Nat.reduceAdd, Nat.reduceLeDiff, Nat.reduceSub, reduceIte, Nat.reduceEqDiff, Nat.reduceLT, reduceCtorEq, Nat.reduceMul, if_true, if_false, eq_self, ne_eq, env_bT, P30_eq, User.pv_eq]
        refine AW.ret ?_
        cases h
        show finish _ _ _ _ _ = _
        first | rfl | (simp [finish, resOf, renArgs, toPV, selObjs, sl])
      · replace h := bif_f hb18 h
        refine AW.skip ?_
        refine AW.seq ?_
        refine AW.seq ?_
        refine AW.reg hS [(0, .pv (.slice (List.map User.pv l1))), (5, .ref 0 0), (36, .pv (.int .i64 (u4.members_.length : Int))), (37, .pv (.int .i64 0))] [.var [.pv (.str u4.name_), .pv (.str u4.leader_), .pv (.slice (List.map PV.str u4.members_))]] ?_ ?_
        · simp -implicitDefEqProofs only [RUNS, qindex, Nat.reduceAdd, Nat.reduceLeDiff, Nat.reduceSub, reduceIte, Nat.reduceEqDiff, Nat.reduceLT, reduceCtorEq, Nat.reduceMul, if_true, if_false, eq_self, ne_eq, env_bT, T_9, T_30, T_32, P30_eq, User.pv_eq]
        refine AW.block ?_
        refine AW.weak (Weak.slots (L := [(0, .pv (.slice (List.map User.pv l1))), (5, .ref 0 0), (36, .pv (.int .i64 (u4.members_.length : Int))), (37, .pv (.int .i64 0))]) ⟨rfl, rfl, rfl, rfl, trivial⟩) ?_
        refine AW.loopI (α := Nat × Int) (fun (_, i19) => ⟨sl [(0, .pv (.slice (List.map User.pv l1))), (5, .ref 0 0), (36, .pv (.int .i64 (u4.members_.length : Int))), (37, .pv (.int .i64 i19))], 67, [.var [.pv (.str u4.name_), .pv (.str u4.leader_), .pv (.slice (List.map PV.str u4.members_))]]⟩) (fun x => iter (F33_b1 u4 l1) x.1 x.2 = some r3) (fun x => x.1) (BIG, 0) h ?_
        clear h
        intro ⟨n34, i19⟩ h
        replace h := iter_some h; obtain ⟨m22, rfl, h⟩ := h
        rw [F33_b1] at h
        try dsimp only at h
        show AW _ _ _ _ ⟨sl [(0, .pv (.slice (List.map User.pv l1))), (5, .ref 0 0), (36, .pv (.int .i64 (u4.members_.length : Int))), (37, .pv (.int .i64 i19))], 67, [.var [.pv (.str u4.name_), .pv (.str u4.leader_), .pv (.slice (List.map PV.str u4.members_))]]⟩
        refine AW.seq ?_
        refine AW.reg hS [(0, .pv (.slice (List.map User.pv l1))), (5, .ref 0 0), (36, .pv (.int .i64 (u4.members_.length : Int))), (37, .pv (.int .i64 i19)), (38, .pv (.bool (decide (i19 < (u4.members_.length : Int)))))] [.var [.pv (.str u4.name_), .pv (.str u4.leader_), .pv (.slice (List.map PV.str u4.members_))]] ?_ ?_
        · simp -implicitDefEqProofs only [RUNS, qindex, Nat.reduceAdd, Nat.reduceLeDiff, Nat.reduceSub, reduceIte, Nat.reduceEqDiff, Nat.reduceLT, reduceCtorEq, Nat.reduceMul, if_true, if_false, eq_self, ne_eq, env_bT, T_3, P30_eq, User.pv_eq]
        refine AW.seq ?_
        refine AW.cond (b := decide (i19 < (u4.members_.length : Int))) rfl (fun hb23 => ?_) (fun hb23 => ?_)
        · replace h := bif_t hb23 h
          refine AW.skip ?_
          refine AW.seq ?_
          refine AW.block ?_
          refine AW.seq ?_
          refine AW.reg hS [(0, .pv (.slice (List.map User.pv l1))), (5, .ref 0 0), (6, .pv (.int .i64 i19)), (36, .pv (.int .i64 (u4.members_.length : Int))), (37, .pv (.int .i64 i19))] [.var [.pv (.str u4.name_), .pv (.str u4.leader_), .pv (.slice (List.map PV.str u4.members_))]] ?_ ?_
          · simp -implicitDefEqProofs only [RUNS, qindex, Nat.reduceAdd, Nat.reduceLeDiff, Nat.reduceSub, reduceIte, Nat.reduceEqDiff, Nat.reduceLT, reduceCtorEq, Nat.reduceMul, if_true, if_false, eq_self, ne_eq, env_bT, P30_eq, User.pv_eq]
          refine AW.seq ?_
          replace h := Option.bind_eq_some_iff.1 h; obtain ⟨w24, q25, h⟩ := h
          have f26 := lidx_f q25
          replace h := Option.bind_eq_some_iff.1 h; obtain ⟨r27, q28, h⟩ := h
          have f29 := c_F35 l1 w24 r27 q28
          try dsimp only at f29
          replace h := Option.bind_eq_some_iff.1 h; obtain ⟨w30, q31, h⟩ := h
          have f32 := lidx_g (guardO_t q31)
          refine AW.dreg mixed hS (hpf ▸ (by kernel_rfl : orderOK pfn _ = true)) [(0, .pv (.slice (List.map User.pv l1))), (5, .ref 0 0), (36, .pv (.int .i64 (u4.members_.length : Int))), (37, .pv (.int .i64 i19)), (65, .pv (.bool (decide (r27 < 0) || (decide (0 < i19) && !Op.bytesLess w30 w24))))] [.var [.pv (.str u4.name_), .pv (.str u4.leader_), .pv (.slice (List.map PV.str u4.members_))]] ?_ ?_
          · clear h
            (simp -implicitDefEqProofs only [RUNS, qindex, Nat.reduceAdd, Nat.reduceLeDiff, Nat.reduceSub, reduceIte, Nat.reduceEqDiff, Nat.reduceLT, reduceCtorEq, Nat.reduceMul, if_true, if_false, eq_self, ne_eq, env_bT, T_3, T_9, T_24, T_30, T_32, P30_eq, User.pv_eq, f26.1, f26.2.1, pf_35, f29, f32.1, f32.2.1]); repeat' (split <;> rename_i hb <;> (try simp only [HBS, ge_iff_le, gt_iff_lt] at hb) <;> simp -implicitDefEqProofs only [RUNS, qindex, Nat.reduceAdd, Nat.reduceLeDiff, Nat.reduceSub, reduceIte, Nat.reduceEqDiff, Nat.reduceLT, reduceCtorEq, Nat.reduceMul, if_true, if_false, eq_self, ne_eq, env_bT, T_3, T_9, T_24, T_30, T_32, P30_eq, User.pv_eq, f26.1, f26.2.1, pf_35, f29, f32.1, f32.2.1, *, decide_true, decide_false, Decidable.not_not, not_false_eq_true, not_true_eq_false])
            all_goals (first | (simp only [BOOLS]; done) | (simp [*]; done) | ((try simp only [CLOS, beq_iff_eq, bne_iff_ne, ne_eq] at *) <;> omega) | (simp_all; done) | (simp_all <;> omega))
          refine AW.cond (b := (decide (r27 < 0) || (decide (0 < i19) && !Op.bytesLess w30 w24))) rfl (fun hb33 => ?_) (fun hb33 => ?_)
          · replace h := bif_t hb33 h
            refine AW.seq ?_
            refine AW.reg hS [(4, .pv (.int .i64 26))] [.var [.pv (.str u4.name_), .pv (.str u4.leader_), .pv (.slice (List.map PV.str u4.members_))]] ?_ ?_
            · simp -implicitDefEqProofs only [RUNS, qindex, Nat.reduceAdd, Nat.reduceLeDiff, Nat.reduceSub, reduceIte, Nat.reduceEqDiff, Nat.reduceLT, reduceCtorEq, Nat.reduceMul, if_true, if_false, eq_self, ne_eq, env_bT, P30_eq, User.pv_eq]
            refine AW.ret ?_
            cases h
            show finish _ _ _ _ _ = _
            first | rfl | (simp [finish, resOf, renArgs, toPV, selObjs, sl])
          · replace h := bif_f hb33 h
            refine AW.skip ?_
            refine AW.reg hS [(0, .pv (.slice (List.map User.pv l1))), (5, .ref 0 0), (36, .pv (.int .i64 (u4.members_.length : Int))), (37, .pv (.int .i64 (IntKind.wrap .i64 (i19 + 1))))] [.var [.pv (.str u4.name_), .pv (.str u4.leader_), .pv (.slice (List.map PV.str u4.members_))]] ?_ ?_
            · simp -implicitDefEqProofs only [RUNS, qindex, Nat.reduceAdd, Nat.reduceLeDiff, Nat.reduceSub, reduceIte, Nat.reduceEqDiff, Nat.reduceLT, reduceCtorEq, Nat.reduceMul, if_true, if_false, eq_self, ne_eq, env_bT, T_3, P30_eq, User.pv_eq]
            exact ⟨(m22, IntKind.wrap .i64 (i19 + 1)), h, (Weak.norm (m := 1) (Nat.le_of_ble_eq_true rfl) ⟨rfl, rfl, rfl, rfl, trivial⟩ rfl rfl rfl), Nat.lt_succ_self _⟩
        · replace h := bif_f hb23 h
          refine AW.exit ?_
          refine AW.seq ?_
          refine AW.reg hS [(4, .pv (.int .i64 0))] [.var [.pv (.str u4.name_), .pv (.str u4.leader_), .pv (.slice (List.map PV.str u4.members_))]] ?_ ?_
          · simp -implicitDefEqProofs only [RUNS, qindex, Nat.reduceAdd, Nat.reduceLeDiff, Nat.reduceSub, reduceIte, Nat.reduceEqDiff, Nat.reduceLT, reduceCtorEq, Nat.reduceMul, if_true, if_false, eq_self, ne_eq, env_bT, P30_eq, User.pv_eq]
          refine AW.ret ?_
          cases h
          show finish _ _ _ _ _ = _
          first | rfl | (simp [finish, resOf, renArgs, toPV, selObjs, sl])

set_option maxHeartbeats 4000000 in
theorem g_F17 {O : Orc} (hS : Sound env O) (hpf : O.pf = pfn) (c_F33 : C_F33 O) (l1 : List User) (r2 : Int) (h : F17 l1 = some r2) : Good env 17 [.pv (.slice (List.map User.pv l1))] [] [.pv (.int .i64 r2)] [] := by
  have pf_33 : O.pf 33 = true := by rw [hpf]; rfl
  refine Good.start (fn := Tryd.f17) (N := 20) rfl rfl rfl (by simp) [] _ rfl rfl ?_
  rw [F17] at h
  refine AW.seq ?_
  refine AW.reg hS [(0, .pv (.slice (List.map User.pv l1)))] [] ?_ ?_
  · simp -implicitDefEqProofs only [RUNS, qindex, Nat.reduceAdd, Nat.reduceLeDiff, Nat.reduceSub, reduceIte, Nat.reduceEqDiff, Nat.reduceLT, reduceCtorEq, Nat.reduceMul, if_true, if_false, eq_self, ne_eq, env_bT, P30_eq, User.pv_eq]
  refine AW.seq ?_
  refine AW.seq ?_
  refine AW.reg hS [(0, .pv (.slice (List.map User.pv l1))), (7, .pv (.bool (decide (64 < (l1.length : Int)))))] [] ?_ ?_
  · simp -implicitDefEqProofs only [RUNS, qindex, Nat.reduceAdd, Nat.reduceLeDiff, Nat.reduceSub, reduceIte, Nat.reduceEqDiff, Nat.reduceLT, reduceCtorEq, Nat.reduceMul, if_true, if_false, eq_self, ne_eq, env_bT, T_3, T_24, T_32, P30_eq, User.pv_eq]
  refine AW.cond (b := decide (64 < (l1.length : Int))) rfl (fun hb3 => ?_) (fun hb3 => ?_)
  · replace h := bif_t hb3 h
    refine AW.seq ?_
    refine AW.reg hS [(2, .pv (.int .i64 22))] [] ?_ ?_
    · simp -implicitDefEqProofs only [RUNS, qindex, Nat.reduceAdd, Nat.reduceLeDiff, Nat.reduceSub, reduceIte, Nat.reduceEqDiff, Nat.reduceLT, reduceCtorEq, Nat.reduceMul, if_true, if_false, eq_self, ne_eq, env_bT, P30_eq, User.pv_eq]
    refine AW.ret ?_
    cases h
    show finish _ _ _ _ _ = _
    first | rfl | (simp [finish, resOf, renArgs, toPV, selObjs, sl])
  · replace h := bif_f hb3 h
    refine AW.skip ?_
    refine AW.seq ?_
    refine AW.seq ?_
    refine AW.reg hS [(0, .pv (.slice (List.map User.pv l1))), (9, .pv (.int .i64 (l1.length : Int))), (10, .pv (.int .i64 0))] [] ?_ ?_
    · simp -implicitDefEqProofs only [RUNS, qindex, Nat.reduceAdd, Nat.reduceLeDiff, Nat.reduceSub, reduceIte, Nat.reduceEqDiff, Nat.reduceLT, reduceCtorEq, Nat.reduceMul, if_true, if_false, eq_self, ne_eq, env_bT, T_24, T_32, P30_eq, User.pv_eq]
    refine AW.block ?_
    refine AW.weak (Weak.slots (L := [(0, .pv (.slice (List.map User.pv l1))), (9, .pv (.int .i64 (l1.length : Int))), (10, .pv (.int .i64 0))]) ⟨rfl, rfl, rfl, trivial⟩) ?_
    refine AW.loopI (α := Nat × Int) (fun (_, i4) => ⟨sl [(0, .pv (.slice (List.map User.pv l1))), (9, .pv (.int .i64 (l1.length : Int))), (10, .pv (.int .i64 i4))], 20, []⟩) (fun x => iter (F17_b1 l1) x.1 x.2 = some r2) (fun x => x.1) (BIG, 0) h ?_
    clear h
    intro ⟨n13, i4⟩ h
    replace h := iter_some h; obtain ⟨m7, rfl, h⟩ := h
    rw [F17_b1] at h
    try dsimp only at h
    show AW _ _ _ _ ⟨sl [(0, .pv (.slice (List.map User.pv l1))), (9, .pv (.int .i64 (l1.length : Int))), (10, .pv (.int .i64 i4))], 20, []⟩
    refine AW.seq ?_
    refine AW.reg hS [(0, .pv (.slice (List.map User.pv l1))), (9, .pv (.int .i64 (l1.length : Int))), (10, .pv (.int .i64 i4)), (11, .pv (.bool (decide (i4 < (l1.length : Int)))))] [] ?_ ?_
    · simp -implicitDefEqProofs only [RUNS, qindex, Nat.reduceAdd, Nat.reduceLeDiff, Nat.reduceSub, reduceIte, Nat.reduceEqDiff, Nat.reduceLT, reduceCtorEq, Nat.reduceMul, if_true, if_false, eq_self, ne_eq, env_bT, T_3, P30_eq, User.pv_eq]
    refine AW.seq ?_
    refine AW.cond (b := decide (i4 < (l1.length : Int))) rfl (fun hb8 => ?_) (fun hb8 => ?_)
    · replace h := bif_t hb8 h
      refine AW.skip ?_
      refine AW.seq ?_
      refine AW.block ?_
      refine AW.seq ?_
      refine AW.reg hS [(0, .pv (.slice (List.map User.pv l1))), (3, .pv (.int .i64 i4)), (9, .pv (.int .i64 (l1.length : Int))), (10, .pv (.int .i64 i4))] [] ?_ ?_
      · simp -implicitDefEqProofs only [RUNS, qindex, Nat.reduceAdd, Nat.reduceLeDiff, Nat.reduceSub, reduceIte, Nat.reduceEqDiff, Nat.reduceLT, reduceCtorEq, Nat.reduceMul, if_true, if_false, eq_self, ne_eq, env_bT, P30_eq, User.pv_eq]
      refine AW.seq ?_
      replace h := Option.bind_eq_some_iff.1 h; obtain ⟨r9, q10, h⟩ := h
      have f11 := c_F33 l1 i4 r9 q10
      try dsimp only at f11
      refine AW.reg hS [(0, .pv (.slice (List.map User.pv l1))), (4, .pv (.int .i64 r9)), (9, .pv (.int .i64 (l1.length : Int))), (10, .pv (.int .i64 i4))] [] ?_ ?_
      · simp -implicitDefEqProofs only [RUNS, qindex, Nat.reduceAdd, Nat.reduceLeDiff, Nat.reduceSub, reduceIte, Nat.reduceEqDiff, Nat.reduceLT, reduceCtorEq, Nat.reduceMul, if_true, if_false, eq_self, ne_eq, env_bT, T_3, T_24, T_32, P30_eq, User.pv_eq, pf_33, f11]
      refine AW.seq ?_
      refine AW.reg hS [(0, .pv (.slice (List.map User.pv l1))), (4, .pv (.int .i64 r9)), (9, .pv (.int .i64 (l1.length : Int))), (10, .pv (.int .i64 i4)), (17, .pv (.bool (!decide (r9 = 0))))] [] ?_ ?_
      · simp -implicitDefEqProofs only [RUNS, qindex, Nat.reduceAdd, Nat.reduceLeDiff, Nat.reduceSub, reduceIte, Nat.reduceEqDiff, Nat.reduceLT, reduceCtorEq, Nat.reduceMul, if_true, if_false, eq_self, ne_eq, env_bT, T_26, P30_eq, User.pv_eq]
      refine AW.cond (b := !decide (r9 = 0)) rfl (fun hb12 => ?_) (fun hb12 => ?_)
      · replace h := bif_t hb12 h
        refine AW.seq ?_
        refine AW.reg hS [(2, .pv (.int .i64 r9))] [] ?_ ?_
        · simp -implicitDefEqProofs only [RUNS, qindex, Nat.reduceAdd, Nat.reduceLeDiff, Nat.reduceSub, reduceIte, Nat.reduceEqDiff, Nat.reduceLT, reduceCtorEq, Nat.reduceMul, if_true, if_false, eq_self, ne_eq, env_bT, P30_eq, User.pv_eq]
        refine AW.ret ?_
        cases h
        show finish _ _ _ _ _ = _
        first | rfl | (simp [finish, resOf, renArgs, toPV, selObjs, sl])
      · replace h := bif_f hb12 h
        refine AW.skip ?_
        refine AW.reg hS [(0, .pv (.slice (List.map User.pv l1))), (9, .pv (.int .i64 (l1.length : Int))), (10, .pv (.int .i64 (IntKind.wrap .i64 (i4 + 1))))] [] ?_ ?_
        · simp -implicitDefEqProofs only [RUNS, qindex, Nat.reduceAdd, Nat.reduceLeDiff, Nat.reduceSub, reduceIte, Nat.reduceEqDiff, Nat.reduceLT, reduceCtorEq, Nat.reduceMul, if_true, if_false, eq_self, ne_eq, env_bT, T_3, P30_eq, User.pv_eq]
        exact ⟨(m7, IntKind.wrap .i64 (i4 + 1)), h, (Weak.norm (m := 0) (Nat.le_of_ble_eq_true rfl) ⟨rfl, rfl, rfl, trivial⟩ rfl rfl rfl), Nat.lt_succ_self _⟩
    · replace h := bif_f hb8 h
      refine AW.exit ?_
      refine AW.seq ?_
      refine AW.reg hS [(2, .pv (.int .i64 0))] [] ?_ ?_
      · simp -implicitDefEqProofs only [RUNS, qindex, Nat.reduceAdd, Nat.reduceLeDiff, Nat.reduceSub, reduceIte, Nat.reduceEqDiff, Nat.reduceLT, reduceCtorEq, Nat.reduceMul, if_true, if_false, eq_self, ne_eq, env_bT, P30_eq, User.pv_eq]
      refine AW.ret ?_
      cases h
      show finish _ _ _ _ _ = _
      first | rfl | (simp [finish, resOf, renArgs, toPV, selObjs, sl])

set_option maxHeartbeats 4000000 in
theorem g_F15 {O : Orc} (hS : Sound env O) (hpf : O.pf = pfn) (c_F17 : C_F17 O) (l1 : List User) (r2 : Str) (r3 : Int) (h : F15 l1 = some (r2, r3)) : Good env 15 [.pv (.slice (List.map User.pv l1))] [] [.pv (.str r2), .pv (.int .i64 r3)] [] := by
  have pf_17 : O.pf 17 = true := by rw [hpf]; rfl
  refine Good.start (fn := Tryd.f15) (N := 61) rfl rfl rfl (by simp) [] _ rfl rfl ?_
  rw [F15] at h
  refine AW.seq ?_
  refine AW.reg hS [(0, .pv (.slice (List.map User.pv l1)))] [] ?_ ?_
  · simp -implicitDefEqProofs only [RUNS, qindex, Nat.reduceAdd, Nat.reduceLeDiff, Nat.reduceSub, reduceIte, Nat.reduceEqDiff, Nat.reduceLT, reduceCtorEq, Nat.reduceMul, if_true, if_false, eq_self, ne_eq, env_bT, P30_eq, User.pv_eq]
  refine AW.seq ?_
  refine AW.seq ?_
  replace h := Option.bind_eq_some_iff.1 h; obtain ⟨r4, q5, h⟩ := h
  have f6 := c_F17 l1 r4 q5
  try dsimp only at f6
  refine AW.reg hS [(0, .pv (.slice (List.map User.pv l1))), (4, .pv (.int .i64 r4))] [] ?_ ?_
  · simp -implicitDefEqProofs only [RUNS, qindex, Nat.reduceAdd, Nat.reduceLeDiff, Nat.reduceSub, reduceIte, Nat.reduceEqDiff, Nat.reduceLT, reduceCtorEq, Nat.reduceMul, if_true, if_false, eq_self, ne_eq, env_bT, T_24, T_32, P30_eq, User.pv_eq, pf_17, f6]
  refine AW.seq ?_
  refine AW.reg hS [(0, .pv (.slice (List.map User.pv l1))), (4, .pv (.int .i64 r4)), (11, .pv (.bool (!decide (r4 = 0))))] [] ?_ ?_
  · simp -implicitDefEqProofs only [RUNS, qindex, Nat.reduceAdd, Nat.reduceLeDiff, Nat.reduceSub, reduceIte, Nat.reduceEqDiff, Nat.reduceLT, reduceCtorEq, Nat.reduceMul, if_true, if_false, eq_self, ne_eq, env_bT, T_26, P30_eq, User.pv_eq]
  refine AW.cond (b := !decide (r4 = 0)) rfl (fun hb7 => ?_) (fun hb7 => ?_)
  · replace h := bif_t hb7 h
    refine AW.seq ?_
    refine AW.reg hS [(2, .pv (.str [])), (3, .pv (.int .i64 r4))] [] ?_ ?_
    · simp -implicitDefEqProofs only [RUNS, qindex, Nat.reduceAdd, Nat.reduceLeDiff, Nat.reduceSub, reduceIte, Nat.reduceEqDiff, Nat.reduceLT, reduceCtorEq, Nat.reduceMul, if_true, if_false, eq_self, ne_eq, env_bT, P30_eq, User.pv_eq]
    refine AW.ret ?_
    cases h
    show finish _ _ _ _ _ = _
    first | rfl | (simp [finish, resOf, renArgs, toPV, selObjs, sl])
  · replace h := bif_f hb7 h
    refine AW.skip ?_
    refine AW.seq ?_
    refine AW.reg hS [(0, .pv (.slice (List.map User.pv l1))), (5, .pv (.str []))] [] ?_ ?_
    · simp -implicitDefEqProofs only [RUNS, qindex, Nat.reduceAdd, Nat.reduceLeDiff, Nat.reduceSub, reduceIte, Nat.reduceEqDiff, Nat.reduceLT, reduceCtorEq, Nat.reduceMul, if_true, if_false, eq_self, ne_eq, env_bT, P30_eq, User.pv_eq]
    refine AW.seq ?_
    refine AW.seq ?_
    refine AW.reg hS [(0, .pv (.slice (List.map User.pv l1))), (5, .pv (.str [])), (14, .pv (.int .i64 (l1.length : Int))), (15, .pv (.int .i64 0))] [] ?_ ?_
    · simp -implicitDefEqProofs only [RUNS, qindex, Nat.reduceAdd, Nat.reduceLeDiff, Nat.reduceSub, reduceIte, Nat.reduceEqDiff, Nat.reduceLT, reduceCtorEq, Nat.reduceMul, if_true, if_false, eq_self, ne_eq, env_bT, T_24, T_32, P30_eq, User.pv_eq]
    refine AW.block ?_
    refine AW.weak (Weak.slots (L := [(0, .pv (.slice (List.map User.pv l1))), (5, .pv (.str [])), (14, .pv (.int .i64 (l1.length : Int))), (15, .pv (.int .i64 0))]) ⟨rfl, rfl, rfl, rfl, trivial⟩) ?_
    refine AW.loopI (α := Nat × Str × Int) (fun (_, s8, i9) => ⟨sl [(0, .pv (.slice (List.map User.pv l1))), (5, .pv (.str s8)), (14, .pv (.int .i64 (l1.length : Int))), (15, .pv (.int .i64 i9))], 61, []⟩) (fun x => iter (F15_b4 l1) x.1 x.2 = some (r2, r3)) (fun x => x.1) (BIG, ([], 0)) h ?_
    clear h
    intro ⟨n50, s8, i9⟩ h
    replace h := iter_some h; obtain ⟨m12, rfl, h⟩ := h
    rw [F15_b4] at h
    try dsimp only at h
    show AW _ _ _ _ ⟨sl [(0, .pv (.slice (List.map User.pv l1))), (5, .pv (.str s8)), (14, .pv (.int .i64 (l1.length : Int))), (15, .pv (.int .i64 i9))], 61, []⟩
    refine AW.seq ?_
    refine AW.reg hS [(0, .pv (.slice (List.map User.pv l1))), (5, .pv (.str s8)), (14, .pv (.int .i64 (l1.length : Int))), (15, .pv (.int .i64 i9)), (16, .pv (.bool (decide (i9 < (l1.length : Int)))))] [] ?_ ?_
    · simp -implicitDefEqProofs only [RUNS, qindex, Nat.reduceAdd, Nat.reduceLeDiff, Nat.reduceSub, reduceIte, Nat.reduceEqDiff, Nat.reduceLT, reduceCtorEq, Nat.reduceMul, if_true, if_false, eq_self, ne_eq, env_bT, T_3, P30_eq, User.pv_eq]
    refine AW.seq ?_
    refine AW.cond (b := decide (i9 < (l1.length : Int))) rfl (fun hb13 => ?_) (fun hb13 => ?_)
    · replace h := bif_t hb13 h
      refine AW.skip ?_
      refine AW.seq ?_
      refine AW.block ?_
      refine AW.seq ?_
      refine AW.reg hS [(0, .pv (.slice (List.map User.pv l1))), (5, .pv (.str s8)), (6, .pv (.int .i64 i9)), (14, .pv (.int .i64 (l1.length : Int))), (15, .pv (.int .i64 i9))] [] ?_ ?_
      · simp -implicitDefEqProofs only [RUNS, qindex, Nat.reduceAdd, Nat.reduceLeDiff, Nat.reduceSub, reduceIte, Nat.reduceEqDiff, Nat.reduceLT, reduceCtorEq, Nat.reduceMul, if_true, if_false, eq_self, ne_eq, env_bT, P30_eq, User.pv_eq]
      refine AW.seq ?_
      replace h := Option.bind_eq_some_iff.1 h; obtain ⟨u14, q15, h⟩ := h
      have f16 := lidx_f q15
      replace h := Option.bind_eq_some_iff.1 h; obtain ⟨s17, q18, h⟩ := h
      have f19 := catO_f q18
      try simp only [List.length_cons, List.length_nil, Nat.zero_add, Nat.reduceAdd, Nat.reduceLeDiff, Nat.add_zero, Nat.reduceMul] at f19
      replace h := Option.bind_eq_some_iff.1 h; obtain ⟨s20, q21, h⟩ := h
      have f22 := catO_f q21
      try simp only [List.length_cons, List.length_nil, Nat.zero_add, Nat.reduceAdd, Nat.reduceLeDiff, Nat.add_zero, Nat.reduceMul] at f22
      replace h := Option.bind_eq_some_iff.1 h; obtain ⟨s23, q24, h⟩ := h
      have f25 := catO_f q24
      try simp only [List.length_cons, List.length_nil, Nat.zero_add, Nat.reduceAdd, Nat.reduceLeDiff, Nat.add_zero, Nat.reduceMul] at f25
      replace h := Option.bind_eq_some_iff.1 h; obtain ⟨s26, q27, h⟩ := h
      have f28 := catO_f q27
      try simp only [List.length_cons, List.length_nil, Nat.zero_add, Nat.reduceAdd, Nat.reduceLeDiff, Nat.add_zero, Nat.reduceMul] at f28
      refine AW.dreg mixed hS (hpf ▸ (by kernel_rfl : orderOK pfn _ = true)) [(0, .pv (.slice (List.map User.pv l1))), (5, .pv (.str s26)), (6, .pv (.int .i64 i9)), (14, .pv (.int .i64 (l1.length : Int))), (15, .pv (.int .i64 i9))] [] ?_ ?_
      · simp -implicitDefEqProofs only [RUNS, qindex, Nat.reduceAdd, Nat.reduceLeDiff, Nat.reduceSub, reduceIte, Nat.reduceEqDiff, Nat.reduceLT, reduceCtorEq, Nat.reduceMul, if_true, if_false, eq_self, ne_eq, env_bT, T_9, T_24, T_32, P30_eq, User.pv_eq, f16.1, f16.2.1, f19.1, f19.2, f22.1, f22.2, f25.1, f25.2, f28.1, f28.2]
      refine AW.seq ?_
      refine AW.seq ?_
      refine AW.reg hS [(0, .pv (.slice (List.map User.pv l1))), (5, .pv (.str s26)), (6, .pv (.int .i64 i9)), (14, .pv (.int .i64 (l1.length : Int))), (15, .pv (.int .i64 i9)), (38, .pv (.int .i64 (u14.members_.length : Int))), (39, .pv (.int .i64 0))] [] ?_ ?_
      · simp -implicitDefEqProofs only [RUNS, qindex, Nat.reduceAdd, Nat.reduceLeDiff, Nat.reduceSub, reduceIte, Nat.reduceEqDiff, Nat.reduceLT, reduceCtorEq, Nat.reduceMul, if_true, if_false, eq_self, ne_eq, env_bT, T_9, T_24, T_30, T_32, P30_eq, User.pv_eq, f16.1, f16.2.1]
      refine AW.block ?_
      refine AW.weak (Weak.slots (L := [(0, .pv (.slice (List.map User.pv l1))), (5, .pv (.str s26)), (6, .pv (.int .i64 i9)), (14, .pv (.int .i64 (l1.length : Int))), (15, .pv (.int .i64 i9)), (38, .pv (.int .i64 (u14.members_.length : Int))), (39, .pv (.int .i64 0))]) ⟨rfl, rfl, rfl, rfl, rfl, rfl, rfl, trivial⟩) ?_
      refine AW.loopI (α := Nat × Str × Int) (fun (_, s29, i30) => ⟨sl [(0, .pv (.slice (List.map User.pv l1))), (5, .pv (.str s29)), (6, .pv (.int .i64 i9)), (14, .pv (.int .i64 (l1.length : Int))), (15, .pv (.int .i64 i9)), (38, .pv (.int .i64 (u14.members_.length : Int))), (39, .pv (.int .i64 i30))], 61, []⟩) (fun x => iter (F15_b6 u14 (iter (F15_b4 l1) m12) i9) x.1 x.2 = some (r2, r3)) (fun x => x.1) (BIG, (s26, 0)) h ?_
      clear h
      intro ⟨n49, s29, i30⟩ h
      replace h := iter_some h; obtain ⟨m33, rfl, h⟩ := h
      rw [F15_b6] at h
      try dsimp only at h
      show AW _ _ _ _ ⟨sl [(0, .pv (.slice (List.map User.pv l1))), (5, .pv (.str s29)), (6, .pv (.int .i64 i9)), (14, .pv (.int .i64 (l1.length : Int))), (15, .pv (.int .i64 i9)), (38, .pv (.int .i64 (u14.members_.length : Int))), (39, .pv (.int .i64 i30))], 61, []⟩
      refine AW.seq ?_
      refine AW.reg hS [(0, .pv (.slice (List.map User.pv l1))), (5, .pv (.str s29)), (6, .pv (.int .i64 i9)), (14, .pv (.int .i64 (l1.length : Int))), (15, .pv (.int .i64 i9)), (38, .pv (.int .i64 (u14.members_.length : Int))), (39, .pv (.int .i64 i30)), (40, .pv (.bool (decide (i30 < (u14.members_.length : Int)))))] [] ?_ ?_
      · simp -implicitDefEqProofs only [RUNS, qindex, Nat.reduceAdd, Nat.reduceLeDiff, Nat.reduceSub, reduceIte, Nat.reduceEqDiff, Nat.reduceLT, reduceCtorEq, Nat.reduceMul, if_true, if_false, eq_self, ne_eq, env_bT, T_3, P30_eq, User.pv_eq]
      refine AW.seq ?_
      refine AW.cond (b := decide (i30 < (u14.members_.length : Int))) rfl (fun hb34 => ?_) (fun hb34 => ?_)
      · replace h := bif_t hb34 h
        refine AW.skip ?_
        refine AW.seq ?_
        refine AW.block ?_
        refine AW.seq ?_
        refine AW.reg hS [(0, .pv (.slice (List.map User.pv l1))), (5, .pv (.str s29)), (6, .pv (.int .i64 i9)), (7, .pv (.int .i64 i30)), (14, .pv (.int .i64 (l1.length : Int))), (15, .pv (.int .i64 i9)), (38, .pv (.int .i64 (u14.members_.length : Int))), (39, .pv (.int .i64 i30))] [] ?_ ?_
        · simp -implicitDefEqProofs only [RUNS, qindex, Nat.reduceAdd, Nat.reduceLeDiff, Nat.reduceSub, reduceIte, Nat.reduceEqDiff, Nat.reduceLT, reduceCtorEq, Nat.reduceMul, if_true, if_false, eq_self, ne_eq, env_bT, P30_eq, User.pv_eq]
        refine AW.seqJ (α := Str) (fun s35 => ⟨sl [(0, .pv (.slice (List.map User.pv l1))), (5, .pv (.str s35)), (6, .pv (.int .i64 i9)), (7, .pv (.int .i64 i30)), (14, .pv (.int .i64 (l1.length : Int))), (15, .pv (.int .i64 i9)), (38, .pv (.int .i64 (u14.members_.length : Int))), (39, .pv (.int .i64 i30))], 61, []⟩) (fun x => F15_j7 u14 i30 (iter (F15_b6 u14 (iter (F15_b4 l1) m12) i9) m33) x = some (r2, r3)) ?_ ?_
        · intro s35 h
          rw [F15_j7] at h
          try dsimp only at h
          show AW _ _ _ _ ⟨sl [(0, .pv (.slice (List.map User.pv l1))), (5, .pv (.str s35)), (6, .pv (.int .i64 i9)), (7, .pv (.int .i64 i30)), (14, .pv (.int .i64 (l1.length : Int))), (15, .pv (.int .i64 i9)), (38, .pv (.int .i64 (u14.members_.length : Int))), (39, .pv (.int .i64 i30))], 61, []⟩
          replace h := Option.bind_eq_some_iff.1 h; obtain ⟨w36, q37, h⟩ := h
          have f38 := lidx_f q37
          replace h := Option.bind_eq_some_iff.1 h; obtain ⟨s39, q40, h⟩ := h
          have f41 := catO_f q40
          try simp only [List.length_cons, List.length_nil, Nat.zero_add, Nat.reduceAdd, Nat.reduceLeDiff, Nat.add_zero, Nat.reduceMul] at f41
          refine AW.reg hS [(0, .pv (.slice (List.map User.pv l1))), (5, .pv (.str s39)), (6, .pv (.int .i64 i9)), (14, .pv (.int .i64 (l1.length : Int))), (15, .pv (.int .i64 i9)), (38, .pv (.int .i64 (u14.members_.length : Int))), (39, .pv (.int .i64 i30))] [] ?_ ?_
          · simp -implicitDefEqProofs only [RUNS, qindex, Nat.reduceAdd, Nat.reduceLeDiff, Nat.reduceSub, reduceIte, Nat.reduceEqDiff, Nat.reduceLT, reduceCtorEq, Nat.reduceMul, if_true, if_false, eq_self, ne_eq, env_bT, T_9, T_24, T_30, T_32, P30_eq, User.pv_eq, f16.1, f16.2.1, f38.1, f38.2.1, f41.1, f41.2]
          refine AW.reg hS [(0, .pv (.slice (List.map User.pv l1))), (5, .pv (.str s39)), (6, .pv (.int .i64 i9)), (14, .pv (.int .i64 (l1.length : Int))), (15, .pv (.int .i64 i9)), (38, .pv (.int .i64 (u14.members_.length : Int))), (39, .pv (.int .i64 (IntKind.wrap .i64 (i30 + 1))))] [] ?_ ?_
          · simp -implicitDefEqProofs only [RUNS, qindex, Nat.reduceAdd, Nat.reduceLeDiff, Nat.reduceSub, reduceIte, Nat.reduceEqDiff, Nat.reduceLT, reduceCtorEq, Nat.reduceMul, if_true, if_false, eq_self, ne_eq, env_bT, T_3, P30_eq, User.pv_eq]
          exact ⟨(m33, (s39, IntKind.wrap .i64 (i30 + 1))), h, (Weak.norm (m := 0) (Nat.le_of_ble_eq_true rfl) ⟨rfl, rfl, rfl, rfl, rfl, rfl, rfl, trivial⟩ rfl rfl rfl), Nat.lt_succ_self _⟩
        refine AW.seq ?_
        refine AW.reg hS [(0, .pv (.slice (List.map User.pv l1))), (5, .pv (.str s29)), (6, .pv (.int .i64 i9)), (7, .pv (.int .i64 i30)), (14, .pv (.int .i64 (l1.length : Int))), (15, .pv (.int .i64 i9)), (38, .pv (.int .i64 (u14.members_.length : Int))), (39, .pv (.int .i64 i30)), (43, .pv (.bool (decide (0 < i30))))] [] ?_ ?_
        · simp -implicitDefEqProofs only [RUNS, qindex, Nat.reduceAdd, Nat.reduceLeDiff, Nat.reduceSub, reduceIte, Nat.reduceEqDiff, Nat.reduceLT, reduceCtorEq, Nat.reduceMul, if_true, if_false, eq_self, ne_eq, env_bT, T_3, P30_eq, User.pv_eq]
        refine AW.cond (b := decide (0 < i30)) rfl (fun hb42 => ?_) (fun hb42 => ?_)
        · replace h := bif_t hb42 h
          replace h := Option.bind_eq_some_iff.1 h; obtain ⟨s43, q44, h⟩ := h
          have f45 := catO_f q44
          try simp only [List.length_cons, List.length_nil, Nat.zero_add, Nat.reduceAdd, Nat.reduceLeDiff, Nat.add_zero, Nat.reduceMul] at f45
          refine AW.reg hS [(0, .pv (.slice (List.map User.pv l1))), (5, .pv (.str s43)), (6, .pv (.int .i64 i9)), (7, .pv (.int .i64 i30)), (14, .pv (.int .i64 (l1.length : Int))), (15, .pv (.int .i64 i9)), (38, .pv (.int .i64 (u14.members_.length : Int))), (39, .pv (.int .i64 i30))] [] ?_ ?_
          · simp -implicitDefEqProofs only [RUNS, qindex, Nat.reduceAdd, Nat.reduceLeDiff, Nat.reduceSub, reduceIte, Nat.reduceEqDiff, Nat.reduceLT, reduceCtorEq, Nat.reduceMul, if_true, if_false, eq_self, ne_eq, env_bT, T_9, P30_eq, User.pv_eq, f45.1, f45.2]
          exact ⟨s43, h, (Weak.norm (m := 0) (Nat.le_of_ble_eq_true rfl) ⟨rfl, rfl, rfl, rfl, rfl, rfl, rfl, rfl, trivial⟩ rfl rfl rfl)⟩
        · replace h := bif_f hb42 h
          refine AW.skip ?_
          exact ⟨s29, h, (Weak.norm (m := 0) (Nat.le_of_ble_eq_true rfl) ⟨rfl, rfl, rfl, rfl, rfl, rfl, rfl, rfl, trivial⟩ rfl rfl rfl)⟩
      · replace h := bif_f hb34 h
        refine AW.exit ?_
        replace h := Option.bind_eq_some_iff.1 h; obtain ⟨s46, q47, h⟩ := h
        have f48 := catO_f q47
        try simp only [List.length_cons, List.length_nil, Nat.zero_add, Nat.reduceAdd, Nat.reduceLeDiff, Nat.add_zero, Nat.reduceMul] at f48
        refine AW.reg hS [(0, .pv (.slice (List.map User.pv l1))), (5, .pv (.str s46)), (14, .pv (.int .i64 (l1.length : Int))), (15, .pv (.int .i64 i9))] [] ?_ ?_
        · simp -implicitDefEqProofs only [RUNS, qindex, Nat.reduceAdd, Nat.reduceLeDiff, Nat.reduceSub, reduceIte, Nat.reduceEqDiff, Nat.reduceLT, reduceCtorEq, Nat.reduceMul, if_true, if_false, eq_self, ne_eq, env_bT, T_9, P30_eq, User.pv_eq, f48.1, f48.2]
        refine AW.reg hS [(0, .pv (.slice (List.map User.pv l1))), (5, .pv (.str s46)), (14, .pv (.int .i64 (l1.length : Int))), (15, .pv (.int .i64 (IntKind.wrap .i64 (i9 + 1))))] [] ?_ ?_
        · simp -implicitDefEqProofs only [RUNS, qindex, Nat.reduceAdd, Nat.reduceLeDiff, Nat.reduceSub, reduceIte, Nat.reduceEqDiff, Nat.reduceLT, reduceCtorEq, Nat.reduceMul, if_true, if_false, eq_self, ne_eq, env_bT, T_3, P30_eq, User.pv_eq]
        exact ⟨(m12, (s46, IntKind.wrap .i64 (i9 + 1))), h, (Weak.norm (m := 0) (Nat.le_of_ble_eq_true rfl) ⟨rfl, rfl, rfl, rfl, trivial⟩ rfl rfl rfl), Nat.lt_succ_self _⟩
    · replace h := bif_f hb13 h
      refine AW.exit ?_
      refine AW.seq ?_
      refine AW.reg hS [(2, .pv (.str s8)), (3, .pv (.int .i64 0))] [] ?_ ?_
      · simp -implicitDefEqProofs only [RUNS, qindex, Nat.reduceAdd, Nat.reduceLeDiff, Nat.reduceSub, reduceIte, Nat.reduceEqDiff, Nat.reduceLT, reduceCtorEq, Nat.reduceMul, if_true, if_false, eq_self, ne_eq, env_bT, P30_eq, User.pv_eq]
      refine AW.ret ?_
      cases h
      show finish _ _ _ _ _ = _
      first | rfl | (simp [finish, resOf, renArgs, toPV, selObjs, sl])

set_option maxHeartbeats 4000000 in
theorem g_F4 {O : Orc} (hS : Sound env O) (hpf : O.pf = pfn) (c_F13 : C_F13 O) (c_F10 : C_F10 O) (c_F14 : C_F14 O) (c_F15 : C_F15 O) (c_F16 : C_F16 O) (c_F17 : C_F17 O) (l1 : List User) (r2 : Bool) (h : F4 l1 = some r2) : Good env 4 [.pv (.slice (List.map User.pv l1))] [] [.pv (.bool r2)] [] := by
  have pf_10 : O.pf 10 = true := by rw [hpf]; rfl
  have pf_13 : O.pf 13 = true := by rw [hpf]; rfl
  have pf_14 : O.pf 14 = true := by rw [hpf]; rfl
  have pf_15 : O.pf 15 = true := by rw [hpf]; rfl
  have pf_16 : O.pf 16 = true := by rw [hpf]; rfl
  have pf_17 : O.pf 17 = true := by rw [hpf]; rfl
  refine Good.start (fn := Tryd.f4) (N := 39) rfl rfl rfl (by simp) [] _ rfl rfl ?_
  rw [F4] at h
  refine AW.seq ?_
  refine AW.reg hS [(0, .pv (.slice (List.map User.pv l1)))] [] ?_ ?_
  · simp -implicitDefEqProofs only [RUNS, qindex, Nat.reduceAdd, Nat.reduceLeDiff, Nat.reduceSub, reduceIte, Nat.reduceEqDiff, Nat.reduceLT, reduceCtorEq, Nat.reduceMul, if_true, if_false, eq_self, ne_eq, env_bT, P30_eq, User.pv_eq]
  refine AW.seq ?_
  refine AW.seq ?_
  replace h := Option.bind_eq_some_iff.1 h; obtain ⟨r3, q4, h⟩ := h
  have f5 := c_F13 l1 r3 q4
  try dsimp only at f5
  refine AW.reg hS [(0, .pv (.slice (List.map User.pv l1))), (9, .pv (.bool (!r3)))] [] ?_ ?_
  · simp -implicitDefEqProofs only [RUNS, qindex, Nat.reduceAdd, Nat.reduceLeDiff, Nat.reduceSub, reduceIte, Nat.reduceEqDiff, Nat.reduceLT, reduceCtorEq, Nat.reduceMul, if_true, if_false, eq_self, ne_eq, env_bT, T_24, T_32, P30_eq, User.pv_eq, pf_13, f5]
  refine AW.cond (b := !r3) rfl (fun hb6 => ?_) (fun hb6 => ?_)
  · replace h := bif_t hb6 h
    refine AW.seq ?_
    replace h := Option.bind_eq_some_iff.1 h; obtain ⟨r7, q8, h⟩ := h
    have f9 := c_F10 r7 q8
    try dsimp only at f9
    refine AW.reg hS [(2, .pv (.bool r7))] [] ?_ ?_
    · simp -implicitDefEqProofs only [RUNS, qindex, Nat.reduceAdd, Nat.reduceLeDiff, Nat.reduceSub, reduceIte, Nat.reduceEqDiff, Nat.reduceLT, reduceCtorEq, Nat.reduceMul, if_true, if_false, eq_self, ne_eq, env_bT, P30_eq, User.pv_eq, pf_10, f9]
    refine AW.ret ?_
    cases h
    show finish _ _ _ _ _ = _
    first | rfl | (simp [finish, resOf, renArgs, toPV, selObjs, sl])
  · replace h := bif_f hb6 h
    refine AW.skip ?_
    refine AW.seq ?_
    replace h := Option.bind_eq_some_iff.1 h; obtain ⟨⟨r10, r11⟩, q12, h⟩ := h
    dsimp only at h
    have f13 := c_F14 l1 r10 r11 q12
    try dsimp only at f13
    refine AW.reg hS [(0, .pv (.slice (List.map User.pv l1))), (3, .pv (.str r10)), (4, .pv (.int .i64 r11))] [] ?_ ?_
    · simp -implicitDefEqProofs only [RUNS, qindex, Nat.reduceAdd, Nat.reduceLeDiff, Nat.reduceSub, reduceIte, Nat.reduceEqDiff, Nat.reduceLT, reduceCtorEq, Nat.reduceMul, if_true, if_false, eq_self, ne_eq, env_bT, T_24, T_32, P30_eq, User.pv_eq, pf_14, f13]
    refine AW.seq ?_
    replace h := Option.bind_eq_some_iff.1 h; obtain ⟨⟨r14, r15⟩, q16, h⟩ := h
    dsimp only at h
    have f17 := c_F15 l1 r14 r15 q16
    try dsimp only at f17
    refine AW.reg hS [(0, .pv (.slice (List.map User.pv l1))), (3, .pv (.str r10)), (4, .pv (.int .i64 r11)), (5, .pv (.str r14)), (6, .pv (.int .i64 r15))] [] ?_ ?_
    · simp -implicitDefEqProofs only [RUNS, qindex, Nat.reduceAdd, Nat.reduceLeDiff, Nat.reduceSub, reduceIte, Nat.reduceEqDiff, Nat.reduceLT, reduceCtorEq, Nat.reduceMul, if_true, if_false, eq_self, ne_eq, env_bT, T_24, T_32, P30_eq, User.pv_eq, pf_15, f17]
    refine AW.seq ?_
    replace h := Option.bind_eq_some_iff.1 h; obtain ⟨r18, q19, h⟩ := h
    have f20 := c_F16 l1 r18 q19
    try dsimp only at f20
    replace h := Option.bind_eq_some_iff.1 h; obtain ⟨r21, q22, h⟩ := h
    have f23 := c_F17 l1 r21 q22
    try dsimp only at f23
    replace h := Option.bind_eq_some_iff.1 h; obtain ⟨r24, q25, h⟩ := h
    have f26 := fun hg => c_F10 r24 (guardO_t q25 hg)
    try dsimp only at f26
    refine AW.reg hS [(2, .pv (.bool (((decide (r18 = r21) && decide (r10 = r14)) && decide (r11 = r15)) && r24)))] [] ?_ ?_
    · clear h
      (simp -implicitDefEqProofs only [RUNS, qindex, Nat.reduceAdd, Nat.reduceLeDiff, Nat.reduceSub, reduceIte, Nat.reduceEqDiff, Nat.reduceLT, reduceCtorEq, Nat.reduceMul, if_true, if_false, eq_self, ne_eq, env_bT, T_9, T_24, T_26, T_32, P30_eq, User.pv_eq, pf_16, f20, pf_17, f23, pf_10, f26]); repeat' (split <;> rename_i hb <;> (try simp only [HBS, ge_iff_le, gt_iff_lt] at hb) <;> simp -implicitDefEqProofs only [RUNS, qindex, Nat.reduceAdd, Nat.reduceLeDiff, Nat.reduceSub, reduceIte, Nat.reduceEqDiff, Nat.reduceLT, reduceCtorEq, Nat.reduceMul, if_true, if_false, eq_self, ne_eq, env_bT, T_9, T_24, T_26, T_32, P30_eq, User.pv_eq, pf_16, f20, pf_17, f23, pf_10, f26, *, decide_true, decide_false, Decidable.not_not, not_false_eq_true, not_true_eq_false])
      all_goals (first | (simp only [BOOLS]; done) | (simp [*]; done) | ((try simp only [CLOS, beq_iff_eq, bne_iff_ne, ne_eq] at *) <;> omega) | (simp_all; done) | (simp_all <;> omega))
    refine AW.ret ?_
    cases h
    show finish _ _ _ _ _ = _
    first | rfl | (simp [finish, resOf, renArgs, toPV, selObjs, sl])

set_option maxHeartbeats 4000000 in
theorem g_F19 {O : Orc} (hS : Sound env O) (hpf : O.pf = pfn) (c_F35 : C_F35 O) (l1 : List User) (name2 : Str) (r3 : User) (r4 : Bool) (h : F19 l1 name2 = some (r3, r4)) : Good env 19 [.pv (.slice (List.map User.pv l1)), .pv (.str name2)] [] [.pv (.agg [.str r3.name_, .str r3.leader_, .slice (List.map PV.str r3.members_)]), .pv (.bool r4)] [] := by
  have pf_35 : O.pf 35 = true := by rw [hpf]; rfl
  refine Good.start (fn := Tryd.f19) (N := 17) rfl rfl rfl (by simp) [] _ rfl rfl ?_
  rw [F19] at h
  refine AW.seq ?_
  refine AW.reg hS [(0, .pv (.slice (List.map User.pv l1))), (1, .pv (.str name2)), (4, .ref 0 0)] [.var [.pv (.str []), .pv (.str []), .nils]] ?_ ?_
  · simp -implicitDefEqProofs only [RUNS, qindex, Nat.reduceAdd, Nat.reduceLeDiff, Nat.reduceSub, reduceIte, Nat.reduceEqDiff, Nat.reduceLT, reduceCtorEq, Nat.reduceMul, if_true, if_false, eq_self, ne_eq, env_bT, T_32, P30_eq, User.pv_eq]
  refine AW.seq ?_
  replace h := Option.bind_eq_some_iff.1 h; obtain ⟨r5, q6, h⟩ := h
  have f7 := c_F35 l1 name2 r5 q6
  try dsimp only at f7
  refine AW.reg hS [(0, .pv (.slice (List.map User.pv l1))), (4, .ref 0 0), (6, .pv (.int .i64 r5))] [.var [.pv (.str []), .pv (.str []), .nils]] ?_ ?_
  · simp -implicitDefEqProofs only [RUNS, qindex, Nat.reduceAdd, Nat.reduceLeDiff, Nat.reduceSub, reduceIte, Nat.reduceEqDiff, Nat.reduceLT, reduceCtorEq, Nat.reduceMul, if_true, if_false, eq_self, ne_eq, env_bT, T_9, T_24, T_32, P30_eq, User.pv_eq, pf_35, f7]
  refine AW.seq ?_
  refine AW.seq ?_
  refine AW.reg hS [(0, .pv (.slice (List.map User.pv l1))), (4, .ref 0 0), (6, .pv (.int .i64 r5)), (11, .pv (.bool (decide (r5 < 0))))] [.var [.pv (.str []), .pv (.str []), .nils]] ?_ ?_
  · simp -implicitDefEqProofs only [RUNS, qindex, Nat.reduceAdd, Nat.reduceLeDiff, Nat.reduceSub, reduceIte, Nat.reduceEqDiff, Nat.reduceLT, reduceCtorEq, Nat.reduceMul, if_true, if_false, eq_self, ne_eq, env_bT, T_3, P30_eq, User.pv_eq]
  refine AW.cond (b := decide (r5 < 0)) rfl (fun hb8 => ?_) (fun hb8 => ?_)
  · replace h := bif_t hb8 h
    refine AW.seq ?_
    refine AW.reg hS [(4, .ref 0 0), (5, .pv (.bool false))] [.var [.pv (.str []), .pv (.str []), .pv (.slice (List.map PV.str []))]] ?_ ?_
    · simp -implicitDefEqProofs only [RUNS, qindex, Nat.reduceAdd, Nat.reduceLeDiff, Nat.reduceSub, reduceIte, Nat.reduceEqDiff, Nat.reduceLT, reduceCtorEq, Nat.reduceMul, if_true, if_false, eq_self, ne_eq, env_bT, T_32, P30_eq, User.pv_eq]
    refine AW.ret ?_
    cases h
    show finish _ _ _ _ _ = _
    first | rfl | (simp [finish, resOf, renArgs, toPV, selObjs, sl])
  · replace h := bif_f hb8 h
    refine AW.skip ?_
    refine AW.seq ?_
    replace h := Option.bind_eq_some_iff.1 h; obtain ⟨u9, q10, h⟩ := h
    have f11 := lidx_f q10
    refine AW.reg hS [(4, .ref 0 0), (5, .pv (.bool true))] [.var [.pv (.str u9.name_), .pv (.str u9.leader_), .pv (.slice (List.map PV.str u9.members_))]] ?_ ?_
    · simp -implicitDefEqProofs only [RUNS, qindex, Nat.reduceAdd, Nat.reduceLeDiff, Nat.reduceSub, reduceIte, Nat.reduceEqDiff, Nat.reduceLT, reduceCtorEq, Nat.reduceMul, if_true, if_false, eq_self, ne_eq, env_bT, T_24, T_32, P30_eq, User.pv_eq, f11.1, f11.2.1]
    refine AW.ret ?_
    cases h
    show finish _ _ _ _ _ = _
    first | rfl | (simp [finish, resOf, renArgs, toPV, selObjs, sl])

set_option maxHeartbeats 4000000 in
theorem g_F22 {O : Orc} (hS : Sound env O) (hpf : O.pf = pfn) (c_F19 : C_F19 O) (l1 : List User) (user2 : Str) (group3 : Str) (r4 : Bool) (h : F22 l1 user2 group3 = some r4) : Good env 22 [.pv (.slice (List.map User.pv l1)), .pv (.str user2), .pv (.str group3)] [] [.pv (.bool r4)] [] := by
  have pf_19 : O.pf 19 = true := by rw [hpf]; rfl
  refine Good.start (fn := Tryd.f22) (N := 33) rfl rfl rfl (by simp) [] _ rfl rfl ?_
  rw [F22] at h
  refine AW.seq ?_
  refine AW.reg hS [(0, .pv (.slice (List.map User.pv l1))), (1, .pv (.str user2)), (2, .pv (.str group3))] [] ?_ ?_
  · simp -implicitDefEqProofs only [RUNS, qindex, Nat.reduceAdd, Nat.reduceLeDiff, Nat.reduceSub, reduceIte, Nat.reduceEqDiff, Nat.reduceLT, reduceCtorEq, Nat.reduceMul, if_true, if_false, eq_self, ne_eq, env_bT, P30_eq, User.pv_eq]
  refine AW.seq ?_
  refine AW.seq ?_
  refine AW.reg hS [(0, .pv (.slice (List.map User.pv l1))), (1, .pv (.str user2)), (2, .pv (.str group3)), (12, .pv (.bool (decide (user2 = group3))))] [] ?_ ?_
  · simp -implicitDefEqProofs only [RUNS, qindex, Nat.reduceAdd, Nat.reduceLeDiff, Nat.reduceSub, reduceIte, Nat.reduceEqDiff, Nat.reduceLT, reduceCtorEq, Nat.reduceMul, if_true, if_false, eq_self, ne_eq, env_bT, T_9, P30_eq, User.pv_eq]
  refine AW.cond (b := decide (user2 = group3)) rfl (fun hb5 => ?_) (fun hb5 => ?_)
  · replace h := bif_t hb5 h
    refine AW.seq ?_
    refine AW.reg hS [(6, .pv (.bool true))] [] ?_ ?_
    · simp -implicitDefEqProofs only [RUNS, qindex, Nat.reduceAdd, Nat.reduceLeDiff, Nat.reduceSub, reduceIte, Nat.reduceEqDiff, Nat.reduceLT, reduceCtorEq, Nat.reduceMul, if_true, if_false, eq_self, ne_eq, env_bT, P30_eq, User.pv_eq]
    refine AW.ret ?_
    cases h
    show finish _ _ _ _ _ = _
    first | rfl | (simp [finish, resOf, renArgs, toPV, selObjs, sl])
  · replace h := bif_f hb5 h
    refine AW.skip ?_
    refine AW.seq ?_
    replace h := Option.bind_eq_some_iff.1 h; obtain ⟨⟨r6, r7⟩, q8, h⟩ := h
    dsimp only at h
    have f9 := c_F19 l1 group3 r6 r7 q8
    try dsimp only at f9
    refine AW.reg hS [(1, .pv (.str user2)), (7, .ref 0 0)] [.var [.pv (.str r6.name_), .pv (.str r6.leader_), .pv (.slice (List.map PV.str r6.members_))]] ?_ ?_
    · simp -implicitDefEqProofs only [RUNS, qindex, Nat.reduceAdd, Nat.reduceLeDiff, Nat.reduceSub, reduceIte, Nat.reduceEqDiff, Nat.reduceLT, reduceCtorEq, Nat.reduceMul, if_true, if_false, eq_self, ne_eq, env_bT, T_9, T_24, T_32, P30_eq, User.pv_eq, pf_19, f9]
    refine AW.seq ?_
    refine AW.seq ?_
    refine AW.reg hS [(1, .pv (.str user2)), (7, .ref 0 0), (21, .pv (.int .i64 (r6.members_.length : Int))), (22, .pv (.int .i64 0))] [.var [.pv (.str r6.name_), .pv (.str r6.leader_), .pv (.slice (List.map PV.str r6.members_))]] ?_ ?_
    · simp -implicitDefEqProofs only [RUNS, qindex, Nat.reduceAdd, Nat.reduceLeDiff, Nat.reduceSub, reduceIte, Nat.reduceEqDiff, Nat.reduceLT, reduceCtorEq, Nat.reduceMul, if_true, if_false, eq_self, ne_eq, env_bT, T_9, T_30, T_32, P30_eq, User.pv_eq]
    refine AW.block ?_
    refine AW.weak (Weak.slots (L := [(1, .pv (.str user2)), (7, .ref 0 0), (21, .pv (.int .i64 (r6.members_.length : Int))), (22, .pv (.int .i64 0))]) ⟨rfl, rfl, rfl, rfl, trivial⟩) ?_
    refine AW.loopI (α := Nat × Int) (fun (_, i10) => ⟨sl [(1, .pv (.str user2)), (7, .ref 0 0), (21, .pv (.int .i64 (r6.members_.length : Int))), (22, .pv (.int .i64 i10))], 33, [.var [.pv (.str r6.name_), .pv (.str r6.leader_), .pv (.slice (List.map PV.str r6.members_))]]⟩) (fun x => iter (F22_b1 r6 user2) x.1 x.2 = some r4) (fun x => x.1) (BIG, 0) h ?_
    clear h
    intro ⟨n19, i10⟩ h
    replace h := iter_some h; obtain ⟨m13, rfl, h⟩ := h
    rw [F22_b1] at h
    try dsimp only at h
    show AW _ _ _ _ ⟨sl [(1, .pv (.str user2)), (7, .ref 0 0), (21, .pv (.int .i64 (r6.members_.length : Int))), (22, .pv (.int .i64 i10))], 33, [.var [.pv (.str r6.name_), .pv (.str r6.leader_), .pv (.slice (List.map PV.str r6.members_))]]⟩
    refine AW.seq ?_
    refine AW.reg hS [(1, .pv (.str user2)), (7, .ref 0 0), (21, .pv (.int .i64 (r6.members_.length : Int))), (22, .pv (.int .i64 i10)), (23, .pv (.bool (decide (i10 < (r6.members_.length : Int)))))] [.var [.pv (.str r6.name_), .pv (.str r6.leader_), .pv (.slice (List.map PV.str r6.members_))]] ?_ ?_
    · simp -implicitDefEqProofs only [RUNS, qindex, Nat.reduceAdd, Nat.reduceLeDiff, Nat.reduceSub, reduceIte, Nat.reduceEqDiff, Nat.reduceLT, reduceCtorEq, Nat.reduceMul, if_true, if_false, eq_self, ne_eq, env_bT, T_3, P30_eq, User.pv_eq]
    refine AW.seq ?_
    refine AW.cond (b := decide (i10 < (r6.members_.length : Int))) rfl (fun hb14 => ?_) (fun hb14 => ?_)
    · replace h := bif_t hb14 h
      refine AW.skip ?_
      refine AW.seq ?_
      refine AW.block ?_
      refine AW.seq ?_
      refine AW.reg hS [(1, .pv (.str user2)), (7, .ref 0 0), (9, .pv (.int .i64 i10)), (21, .pv (.int .i64 (r6.members_.length : Int))), (22, .pv (.int .i64 i10))] [.var [.pv (.str r6.name_), .pv (.str r6.leader_), .pv (.slice (List.map PV.str r6.members_))]] ?_ ?_
      · simp -implicitDefEqProofs only [RUNS, qindex, Nat.reduceAdd, Nat.reduceLeDiff, Nat.reduceSub, reduceIte, Nat.reduceEqDiff, Nat.reduceLT, reduceCtorEq, Nat.reduceMul, if_true, if_false, eq_self, ne_eq, env_bT, P30_eq, User.pv_eq]
      refine AW.seq ?_
      replace h := Option.bind_eq_some_iff.1 h; obtain ⟨w15, q16, h⟩ := h
      have f17 := lidx_f q16
      refine AW.reg hS [(1, .pv (.str user2)), (7, .ref 0 0), (21, .pv (.int .i64 (r6.members_.length : Int))), (22, .pv (.int .i64 i10)), (31, .pv (.bool (decide (w15 = user2))))] [.var [.pv (.str r6.name_), .pv (.str r6.leader_), .pv (.slice (List.map PV.str r6.members_))]] ?_ ?_
      · simp -implicitDefEqProofs only [RUNS, qindex, Nat.reduceAdd, Nat.reduceLeDiff, Nat.reduceSub, reduceIte, Nat.reduceEqDiff, Nat.reduceLT, reduceCtorEq, Nat.reduceMul, if_true, if_false, eq_self, ne_eq, env_bT, T_9, T_30, T_32, P30_eq, User.pv_eq, f17.1, f17.2.1]
      refine AW.cond (b := decide (w15 = user2)) rfl (fun hb18 => ?_) (fun hb18 => ?_)
      · replace h := bif_t hb18 h
        refine AW.seq ?_
        refine AW.reg hS [(6, .pv (.bool true))] [.var [.pv (.str r6.name_), .pv (.str r6.leader_), .pv (.slice (List.map PV.str r6.members_))]] ?_ ?_
        · simp -implicitDefEqProofs only [RUNS, qindex, Nat.reduceAdd, Nat.reduceLeDiff, Nat.reduceSub, reduceIte, Nat.reduceEqDiff, Nat.reduceLT, reduceCtorEq, Nat.reduceMul, if_true, if_false, eq_self, ne_eq, env_bT, P30_eq, User.pv_eq]
        refine AW.ret ?_
        cases h
        show finish _ _ _ _ _ = _
        first | rfl | (simp [finish, resOf, renArgs, toPV, selObjs, sl])
      · replace h := bif_f hb18 h
        refine AW.skip ?_
        refine AW.reg hS [(1, .pv (.str user2)), (7, .ref 0 0), (21, .pv (.int .i64 (r6.members_.length : Int))), (22, .pv (.int .i64 (IntKind.wrap .i64 (i10 + 1))))] [.var [.pv (.str r6.name_), .pv (.str r6.leader_), .pv (.slice (List.map PV.str r6.members_))]] ?_ ?_
        · simp -implicitDefEqProofs only [RUNS, qindex, Nat.reduceAdd, Nat.reduceLeDiff, Nat.reduceSub, reduceIte, Nat.reduceEqDiff, Nat.reduceLT, reduceCtorEq, Nat.reduceMul, if_true, if_false, eq_self, ne_eq, env_bT, T_3, P30_eq, User.pv_eq]
        exact ⟨(m13, IntKind.wrap .i64 (i10 + 1)), h, (Weak.norm (m := 1) (Nat.le_of_ble_eq_true rfl) ⟨rfl, rfl, rfl, rfl, trivial⟩ rfl rfl rfl), Nat.lt_succ_self _⟩
    · replace h := bif_f hb14 h
      refine AW.exit ?_
      refine AW.seq ?_
      refine AW.reg hS [(6, .pv (.bool false))] [.var [.pv (.str r6.name_), .pv (.str r6.leader_), .pv (.slice (List.map PV.str r6.members_))]] ?_ ?_
      · simp -implicitDefEqProofs only [RUNS, qindex, Nat.reduceAdd, Nat.reduceLeDiff, Nat.reduceSub, reduceIte, Nat.reduceEqDiff, Nat.reduceLT, reduceCtorEq, Nat.reduceMul, if_true, if_false, eq_self, ne_eq, env_bT, P30_eq, User.pv_eq]
      refine AW.ret ?_
      cases h
      show finish _ _ _ _ _ = _
      first | rfl | (simp [finish, resOf, renArgs, toPV, selObjs, sl])

set_option maxHeartbeats 4000000 in
theorem g_F24 {O : Orc} (hS : Sound env O) (hpf : O.pf = pfn) (c_F19 : C_F19 O) (c_F22 : C_F22 O) (l1 : List User) (user2 : Str) (group3 : Str) (r4 : Bool) (h : F24 l1 user2 group3 = some r4) : Good env 24 [.pv (.slice (List.map User.pv l1)), .pv (.str user2), .pv (.str group3)] [] [.pv (.bool r4)] [] := by
  have pf_19 : O.pf 19 = true := by rw [hpf]; rfl
  have pf_22 : O.pf 22 = true := by rw [hpf]; rfl
  refine Good.start (fn := Tryd.f24) (N := 26) rfl rfl rfl (by simp) [] _ rfl rfl ?_
  rw [F24] at h
  refine AW.seq ?_
  refine AW.reg hS [(0, .pv (.slice (List.map User.pv l1))), (1, .pv (.str user2)), (2, .pv (.str group3))] [] ?_ ?_
  · simp -implicitDefEqProofs only [RUNS, qindex, Nat.reduceAdd, Nat.reduceLeDiff, Nat.reduceSub, reduceIte, Nat.reduceEqDiff, Nat.reduceLT, reduceCtorEq, Nat.reduceMul, if_true, if_false, eq_self, ne_eq, env_bT, P30_eq, User.pv_eq]
  refine AW.seq ?_
  replace h := Option.bind_eq_some_iff.1 h; obtain ⟨⟨r5, r6⟩, q7, h⟩ := h
  dsimp only at h
  have f8 := c_F19 l1 group3 r5 r6 q7
  try dsimp only at f8
  refine AW.reg hS [(0, .pv (.slice (List.map User.pv l1))), (1, .pv (.str user2)), (2, .pv (.str group3)), (7, .ref 0 0)] [.var [.pv (.str r5.name_), .pv (.str r5.leader_), .pv (.slice (List.map PV.str r5.members_))]] ?_ ?_
  · simp -implicitDefEqProofs only [RUNS, qindex, Nat.reduceAdd, Nat.reduceLeDiff, Nat.reduceSub, reduceIte, Nat.reduceEqDiff, Nat.reduceLT, reduceCtorEq, Nat.reduceMul, if_true, if_false, eq_self, ne_eq, env_bT, T_9, T_24, T_32, P30_eq, User.pv_eq, pf_19, f8]
  refine AW.seq ?_
  refine AW.seq ?_
  refine AW.reg hS [(0, .pv (.slice (List.map User.pv l1))), (1, .pv (.str user2)), (2, .pv (.str group3)), (7, .ref 0 0), (17, .pv (.bool (!decide (r5.leader_ = []))))] [.var [.pv (.str r5.name_), .pv (.str r5.leader_), .pv (.slice (List.map PV.str r5.members_))]] ?_ ?_
  · simp -implicitDefEqProofs only [RUNS, qindex, Nat.reduceAdd, Nat.reduceLeDiff, Nat.reduceSub, reduceIte, Nat.reduceEqDiff, Nat.reduceLT, reduceCtorEq, Nat.reduceMul, if_true, if_false, eq_self, ne_eq, env_bT, T_9, T_32, P30_eq, User.pv_eq]
  refine AW.cond (b := !decide (r5.leader_ = [])) rfl (fun hb9 => ?_) (fun hb9 => ?_)
  · replace h := bif_t hb9 h
    refine AW.seq ?_
    refine AW.reg hS [(6, .pv (.bool (decide (r5.leader_ = user2))))] [.var [.pv (.str r5.name_), .pv (.str r5.leader_), .pv (.slice (List.map PV.str r5.members_))]] ?_ ?_
    · simp -implicitDefEqProofs only [RUNS, qindex, Nat.reduceAdd, Nat.reduceLeDiff, Nat.reduceSub, reduceIte, Nat.reduceEqDiff, Nat.reduceLT, reduceCtorEq, Nat.reduceMul, if_true, if_false, eq_self, ne_eq, env_bT, T_9, T_32, P30_eq, User.pv_eq]
    refine AW.ret ?_
    cases h
    show finish _ _ _ _ _ = _
    first | rfl | (simp [finish, resOf, renArgs, toPV, selObjs, sl])
  · replace h := bif_f hb9 h
    refine AW.skip ?_
    refine AW.seq ?_
    replace h := Option.bind_eq_some_iff.1 h; obtain ⟨r10, q11, h⟩ := h
    have f12 := c_F22 l1 user2 group3 r10 q11
    try dsimp only at f12
    refine AW.reg hS [(6, .pv (.bool r10))] [.var [.pv (.str r5.name_), .pv (.str r5.leader_), .pv (.slice (List.map PV.str r5.members_))]] ?_ ?_
    · simp -implicitDefEqProofs only [RUNS, qindex, Nat.reduceAdd, Nat.reduceLeDiff, Nat.reduceSub, reduceIte, Nat.reduceEqDiff, Nat.reduceLT, reduceCtorEq, Nat.reduceMul, if_true, if_false, eq_self, ne_eq, env_bT, T_9, T_24, T_32, P30_eq, User.pv_eq, pf_22, f12]
    refine AW.ret ?_
    cases h
    show finish _ _ _ _ _ = _
    first | rfl | (simp [finish, resOf, renArgs, toPV, selObjs, sl])

end Go.Abs.U05
