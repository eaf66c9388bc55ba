/- The layer 5 laws: the functions walked. -/
import Derived.Test.YtibmhmnhiflmjaaDoorD1
set_option linter.unusedSimpArgs false
namespace Go.Abs.U05
open Go.RowKit Go.Proofs

set_option maxHeartbeats 4000000 in
theorem g_F20 {O : Orc} (hS : Sound env O) (hpf : O.pf = pfn) (a1 : User) (b2 : User) (r3 : Bool) (h : F20 a1 b2 = some r3) : Good env 20 [.pv (.agg [.str a1.name_, .str a1.leader_, .slice (List.map PV.str a1.members_)]), .pv (.agg [.str b2.name_, .str b2.leader_, .slice (List.map PV.str b2.members_)])] [] [.pv (.bool r3)] [] := by
  refine Good.start (fn := Tryd.f20) (N := 45) rfl rfl rfl (by simp) [] _ rfl rfl ?_
  rw [F20] at h
  refine AW.seq ?_
  refine AW.reg hS [(2, .ref 0 0), (3, .ref 1 0)] [.var [.pv (.str a1.name_), .pv (.str a1.leader_), .pv (.slice (List.map PV.str a1.members_))], .var [.pv (.str b2.name_), .pv (.str b2.leader_), .pv (.slice (List.map PV.str b2.members_))]] ?_ ?_
  · simp -implicitDefEqProofs only [RUNS, qindex, Nat.reduceAdd, Nat.reduceLeDiff, Nat.reduceSub, reduceIte, Nat.reduceEqDiff, Nat.reduceLT, reduceCtorEq, Nat.reduceMul, if_true, if_false, eq_self, ne_eq, env_bT, T_32, P30_eq, User.pv_eq]
  refine AW.seq ?_
  refine AW.seq ?_
  refine AW.reg hS [(2, .ref 0 0), (3, .ref 1 0), (26, .pv (.bool ((!decide (a1.name_ = b2.name_) || !decide (a1.leader_ = b2.leader_)) || !decide ((a1.members_.length : Int) = (b2.members_.length : Int)))))] [.var [.pv (.str a1.name_), .pv (.str a1.leader_), .pv (.slice (List.map PV.str a1.members_))], .var [.pv (.str b2.name_), .pv (.str b2.leader_), .pv (.slice (List.map PV.str b2.members_))]] ?_ ?_
  · clear h
    (simp -implicitDefEqProofs only [RUNS, qindex, Nat.reduceAdd, Nat.reduceLeDiff, Nat.reduceSub, reduceIte, Nat.reduceEqDiff, Nat.reduceLT, reduceCtorEq, Nat.reduceMul, if_true, if_false, eq_self, ne_eq, env_bT, T_3, T_9, T_30, T_32, P30_eq, User.pv_eq]); repeat' (split <;> rename_i hb <;> (try simp only [HBS, ge_iff_le, gt_iff_lt] at hb) <;> simp -implicitDefEqProofs only [RUNS, qindex, Nat.reduceAdd, Nat.reduceLeDiff, Nat.reduceSub, reduceIte, Nat.reduceEqDiff, Nat.reduceLT, reduceCtorEq, Nat.reduceMul, if_true, if_false, eq_self, ne_eq, env_bT, T_3, T_9, T_30, T_32, P30_eq, User.pv_eq, *, decide_true, decide_false, Decidable.not_not, not_false_eq_true, not_true_eq_false])
    all_goals (first | (simp only [BOOLS]; done) | (simp [*]; done) | ((try simp only [CLOS, beq_iff_eq, bne_iff_ne, ne_eq] at *) <;> omega) | (simp_all; done) | (simp_all <;> omega))
  refine AW.cond (b := ((!decide (a1.name_ = b2.name_) || !decide (a1.leader_ = b2.leader_)) || !decide ((a1.members_.length : Int) = (b2.members_.length : Int)))) rfl (fun hb4 => ?_) (fun hb4 => ?_)
  · replace h := bif_t hb4 h
    refine AW.seq ?_
    refine AW.reg hS [(4, .pv (.bool false))] [.var [.pv (.str a1.name_), .pv (.str a1.leader_), .pv (.slice (List.map PV.str a1.members_))], .var [.pv (.str b2.name_), .pv (.str b2.leader_), .pv (.slice (List.map PV.str b2.members_))]] ?_ ?_
    · simp -implicitDefEqProofs only [RUNS, qindex, Nat.reduceAdd, Nat.reduceLeDiff, Nat.reduceSub, reduceIte, Nat.reduceEqDiff, Nat.reduceLT, reduceCtorEq, Nat.reduceMul, if_true, if_false, eq_self, ne_eq, env_bT, P30_eq, User.pv_eq]
    refine AW.ret ?_
    cases h
    show finish _ _ _ _ _ = _
    first | rfl | (simp [finish, resOf, renArgs, toPV, selObjs, sl])
  · replace h := bif_f hb4 h
    refine AW.skip ?_
    refine AW.seq ?_
    refine AW.seq ?_
    refine AW.reg hS [(2, .ref 0 0), (3, .ref 1 0), (29, .pv (.int .i64 (a1.members_.length : Int))), (30, .pv (.int .i64 0))] [.var [.pv (.str a1.name_), .pv (.str a1.leader_), .pv (.slice (List.map PV.str a1.members_))], .var [.pv (.str b2.name_), .pv (.str b2.leader_), .pv (.slice (List.map PV.str b2.members_))]] ?_ ?_
    · simp -implicitDefEqProofs only [RUNS, qindex, Nat.reduceAdd, Nat.reduceLeDiff, Nat.reduceSub, reduceIte, Nat.reduceEqDiff, Nat.reduceLT, reduceCtorEq, Nat.reduceMul, if_true, if_false, eq_self, ne_eq, env_bT, T_9, T_30, T_32, P30_eq, User.pv_eq]
    refine AW.block ?_
    refine AW.weak (Weak.slots (L := [(2, .ref 0 0), (3, .ref 1 0), (29, .pv (.int .i64 (a1.members_.length : Int))), (30, .pv (.int .i64 0))]) ⟨rfl, rfl, rfl, rfl, trivial⟩) ?_
    refine AW.loopI (α := Nat × Int) (fun (_, i5) => ⟨sl [(2, .ref 0 0), (3, .ref 1 0), (29, .pv (.int .i64 (a1.members_.length : Int))), (30, .pv (.int .i64 i5))], 45, [.var [.pv (.str a1.name_), .pv (.str a1.leader_), .pv (.slice (List.map PV.str a1.members_))], .var [.pv (.str b2.name_), .pv (.str b2.leader_), .pv (.slice (List.map PV.str b2.members_))]]⟩) (fun x => iter (F20_b1 a1 b2) x.1 x.2 = some r3) (fun x => x.1) (BIG, 0) h ?_
    clear h
    intro ⟨n17, i5⟩ h
    replace h := iter_some h; obtain ⟨m8, rfl, h⟩ := h
    rw [F20_b1] at h
    try dsimp only at h
    show AW _ _ _ _ ⟨sl [(2, .ref 0 0), (3, .ref 1 0), (29, .pv (.int .i64 (a1.members_.length : Int))), (30, .pv (.int .i64 i5))], 45, [.var [.pv (.str a1.name_), .pv (.str a1.leader_), .pv (.slice (List.map PV.str a1.members_))], .var [.pv (.str b2.name_), .pv (.str b2.leader_), .pv (.slice (List.map PV.str b2.members_))]]⟩
    refine AW.seq ?_
    refine AW.reg hS [(2, .ref 0 0), (3, .ref 1 0), (29, .pv (.int .i64 (a1.members_.length : Int))), (30, .pv (.int .i64 i5)), (31, .pv (.bool (decide (i5 < (a1.members_.length : Int)))))] [.var [.pv (.str a1.name_), .pv (.str a1.leader_), .pv (.slice (List.map PV.str a1.members_))], .var [.pv (.str b2.name_), .pv (.str b2.leader_), .pv (.slice (List.map PV.str b2.members_))]] ?_ ?_
    · simp -implicitDefEqProofs only [RUNS, qindex, Nat.reduceAdd, Nat.reduceLeDiff, Nat.reduceSub, reduceIte, Nat.reduceEqDiff, Nat.reduceLT, reduceCtorEq, Nat.reduceMul, if_true, if_false, eq_self, ne_eq, env_bT, T_3, P30_eq, User.pv_eq]
    refine AW.seq ?_
    refine AW.cond (b := decide (i5 < (a1.members_.length : Int))) rfl (fun hb9 => ?_) (fun hb9 => ?_)
    · replace h := bif_t hb9 h
      refine AW.skip ?_
      refine AW.seq ?_
      refine AW.block ?_
      refine AW.seq ?_
      refine AW.reg hS [(2, .ref 0 0), (3, .ref 1 0), (5, .pv (.int .i64 i5)), (29, .pv (.int .i64 (a1.members_.length : Int))), (30, .pv (.int .i64 i5))] [.var [.pv (.str a1.name_), .pv (.str a1.leader_), .pv (.slice (List.map PV.str a1.members_))], .var [.pv (.str b2.name_), .pv (.str b2.leader_), .pv (.slice (List.map PV.str b2.members_))]] ?_ ?_
      · simp -implicitDefEqProofs only [RUNS, qindex, Nat.reduceAdd, Nat.reduceLeDiff, Nat.reduceSub, reduceIte, Nat.reduceEqDiff, Nat.reduceLT, reduceCtorEq, Nat.reduceMul, if_true, if_false, eq_self, ne_eq, env_bT, P30_eq, User.pv_eq]
      refine AW.seq ?_
      replace h := Option.bind_eq_some_iff.1 h; obtain ⟨w10, q11, h⟩ := h
      have f12 := lidx_f q11
      replace h := Option.bind_eq_some_iff.1 h; obtain ⟨w13, q14, h⟩ := h
      have f15 := lidx_f q14
      refine AW.dreg mixed hS (hpf ▸ (by kernel_rfl : orderOK pfn _ = true)) [(2, .ref 0 0), (3, .ref 1 0), (29, .pv (.int .i64 (a1.members_.length : Int))), (30, .pv (.int .i64 i5)), (43, .pv (.bool (!decide (w10 = w13))))] [.var [.pv (.str a1.name_), .pv (.str a1.leader_), .pv (.slice (List.map PV.str a1.members_))], .var [.pv (.str b2.name_), .pv (.str b2.leader_), .pv (.slice (List.map PV.str b2.members_))]] ?_ ?_
      · simp -implicitDefEqProofs only [RUNS, qindex, Nat.reduceAdd, Nat.reduceLeDiff, Nat.reduceSub, reduceIte, Nat.reduceEqDiff, Nat.reduceLT, reduceCtorEq, Nat.reduceMul, if_true, if_false, eq_self, ne_eq, env_bT, T_9, T_30, T_32, P30_eq, User.pv_eq, f12.1, f12.2.1, f15.1, f15.2.1]
      refine AW.cond (b := !decide (w10 = w13)) rfl (fun hb16 => ?_) (fun hb16 => ?_)
      · replace h := bif_t hb16 h
        refine AW.seq ?_
        refine AW.reg hS [(4, .pv (.bool false))] [.var [.pv (.str a1.name_), .pv (.str a1.leader_), .pv (.slice (List.map PV.str a1.members_))], .var [.pv (.str b2.name_), .pv (.str b2.leader_), .pv (.slice (List.map PV.str b2.members_))]] ?_ ?_
        · simp -implicitDefEqProofs only [RUNS, qindex, Nat.reduceAdd, Nat.reduceLeDiff, Nat.reduceSub, reduceIte, Nat.reduceEqDiff, Nat.reduceLT, reduceCtorEq, Nat.reduceMul, if_true, if_false, eq_self, ne_eq, env_bT, P30_eq, User.pv_eq]
        refine AW.ret ?_
        cases h
        show finish _ _ _ _ _ = _
        first | rfl | (simp [finish, resOf, renArgs, toPV, selObjs, sl])
      · replace h := bif_f hb16 h
        refine AW.skip ?_
        refine AW.reg hS [(2, .ref 0 0), (3, .ref 1 0), (29, .pv (.int .i64 (a1.members_.length : Int))), (30, .pv (.int .i64 (IntKind.wrap .i64 (i5 + 1))))] [.var [.pv (.str a1.name_), .pv (.str a1.leader_), .pv (.slice (List.map PV.str a1.members_))], .var [.pv (.str b2.name_), .pv (.str b2.leader_), .pv (.slice (List.map PV.str b2.members_))]] ?_ ?_
        · simp -implicitDefEqProofs only [RUNS, qindex, Nat.reduceAdd, Nat.reduceLeDiff, Nat.reduceSub, reduceIte, Nat.reduceEqDiff, Nat.reduceLT, reduceCtorEq, Nat.reduceMul, if_true, if_false, eq_self, ne_eq, env_bT, T_3, P30_eq, User.pv_eq]
        exact ⟨(m8, IntKind.wrap .i64 (i5 + 1)), h, (Weak.norm (m := 2) (Nat.le_of_ble_eq_true rfl) ⟨rfl, rfl, rfl, rfl, trivial⟩ rfl rfl rfl), Nat.lt_succ_self _⟩
    · replace h := bif_f hb9 h
      refine AW.exit ?_
      refine AW.seq ?_
      refine AW.reg hS [(4, .pv (.bool true))] [.var [.pv (.str a1.name_), .pv (.str a1.leader_), .pv (.slice (List.map PV.str a1.members_))], .var [.pv (.str b2.name_), .pv (.str b2.leader_), .pv (.slice (List.map PV.str b2.members_))]] ?_ ?_
      · simp -implicitDefEqProofs only [RUNS, qindex, Nat.reduceAdd, Nat.reduceLeDiff, Nat.reduceSub, reduceIte, Nat.reduceEqDiff, Nat.reduceLT, reduceCtorEq, Nat.reduceMul, if_true, if_false, eq_self, ne_eq, env_bT, P30_eq, User.pv_eq]
      refine AW.ret ?_
      cases h
      show finish _ _ _ _ _ = _
      first | rfl | (simp [finish, resOf, renArgs, toPV, selObjs, sl])

set_option maxHeartbeats 4000000 in
theorem g_F27 {O : Orc} (hS : Sound env O) (hpf : O.pf = pfn) (c_F20 : C_F20 O) (a1 : List User) (b2 : List User) (r3 : Bool) (h : F27 a1 b2 = some r3) : Good env 27 [.pv (.slice (List.map User.pv a1)), .pv (.slice (List.map User.pv b2))] [] [.pv (.bool r3)] [] := by
  have pf_20 : O.pf 20 = true := by rw [hpf]; rfl
  refine Good.start (fn := Tryd.f27) (N := 27) rfl rfl rfl (by simp) [] _ rfl rfl ?_
  rw [F27] at h
  refine AW.seq ?_
  refine AW.reg hS [(0, .pv (.slice (List.map User.pv a1))), (1, .pv (.slice (List.map User.pv b2)))] [] ?_ ?_
  · simp -implicitDefEqProofs only [RUNS, qindex, Nat.reduceAdd, Nat.reduceLeDiff, Nat.reduceSub, reduceIte, Nat.reduceEqDiff, Nat.reduceLT, reduceCtorEq, Nat.reduceMul, if_true, if_false, eq_self, ne_eq, env_bT, P30_eq, User.pv_eq]
  refine AW.seq ?_
  refine AW.seq ?_
  refine AW.reg hS [(0, .pv (.slice (List.map User.pv a1))), (1, .pv (.slice (List.map User.pv b2))), (10, .pv (.bool (!decide ((a1.length : Int) = (b2.length : Int)))))] [] ?_ ?_
  · simp -implicitDefEqProofs only [RUNS, qindex, Nat.reduceAdd, Nat.reduceLeDiff, Nat.reduceSub, reduceIte, Nat.reduceEqDiff, Nat.reduceLT, reduceCtorEq, Nat.reduceMul, if_true, if_false, eq_self, ne_eq, env_bT, T_3, T_24, T_32, P30_eq, User.pv_eq]
  refine AW.cond (b := !decide ((a1.length : Int) = (b2.length : Int))) rfl (fun hb4 => ?_) (fun hb4 => ?_)
  · replace h := bif_t hb4 h
    refine AW.seq ?_
    refine AW.reg hS [(4, .pv (.bool false))] [] ?_ ?_
    · simp -implicitDefEqProofs only [RUNS, qindex, Nat.reduceAdd, Nat.reduceLeDiff, Nat.reduceSub, reduceIte, Nat.reduceEqDiff, Nat.reduceLT, reduceCtorEq, Nat.reduceMul, if_true, if_false, eq_self, ne_eq, env_bT, P30_eq, User.pv_eq]
    refine AW.ret ?_
    cases h
    show finish _ _ _ _ _ = _
    first | rfl | (simp [finish, resOf, renArgs, toPV, selObjs, sl])
  · replace h := bif_f hb4 h
    refine AW.skip ?_
    refine AW.seq ?_
    refine AW.seq ?_
    refine AW.reg hS [(0, .pv (.slice (List.map User.pv a1))), (1, .pv (.slice (List.map User.pv b2))), (12, .pv (.int .i64 (a1.length : Int))), (13, .pv (.int .i64 0))] [] ?_ ?_
    · simp -implicitDefEqProofs only [RUNS, qindex, Nat.reduceAdd, Nat.reduceLeDiff, Nat.reduceSub, reduceIte, Nat.reduceEqDiff, Nat.reduceLT, reduceCtorEq, Nat.reduceMul, if_true, if_false, eq_self, ne_eq, env_bT, T_24, T_32, P30_eq, User.pv_eq]
    refine AW.block ?_
    refine AW.weak (Weak.slots (L := [(0, .pv (.slice (List.map User.pv a1))), (1, .pv (.slice (List.map User.pv b2))), (12, .pv (.int .i64 (a1.length : Int))), (13, .pv (.int .i64 0))]) ⟨rfl, rfl, rfl, rfl, trivial⟩) ?_
    refine AW.loopI (α := Nat × Int) (fun (_, i5) => ⟨sl [(0, .pv (.slice (List.map User.pv a1))), (1, .pv (.slice (List.map User.pv b2))), (12, .pv (.int .i64 (a1.length : Int))), (13, .pv (.int .i64 i5))], 27, []⟩) (fun x => iter (F27_b1 a1 b2) x.1 x.2 = some r3) (fun x => x.1) (BIG, 0) h ?_
    clear h
    intro ⟨n20, i5⟩ h
    replace h := iter_some h; obtain ⟨m8, rfl, h⟩ := h
    rw [F27_b1] at h
    try dsimp only at h
    show AW _ _ _ _ ⟨sl [(0, .pv (.slice (List.map User.pv a1))), (1, .pv (.slice (List.map User.pv b2))), (12, .pv (.int .i64 (a1.length : Int))), (13, .pv (.int .i64 i5))], 27, []⟩
    refine AW.seq ?_
    refine AW.reg hS [(0, .pv (.slice (List.map User.pv a1))), (1, .pv (.slice (List.map User.pv b2))), (12, .pv (.int .i64 (a1.length : Int))), (13, .pv (.int .i64 i5)), (14, .pv (.bool (decide (i5 < (a1.length : Int)))))] [] ?_ ?_
    · simp -implicitDefEqProofs only [RUNS, qindex, Nat.reduceAdd, Nat.reduceLeDiff, Nat.reduceSub, reduceIte, Nat.reduceEqDiff, Nat.reduceLT, reduceCtorEq, Nat.reduceMul, if_true, if_false, eq_self, ne_eq, env_bT, T_3, P30_eq, User.pv_eq]
    refine AW.seq ?_
    refine AW.cond (b := decide (i5 < (a1.length : Int))) rfl (fun hb9 => ?_) (fun hb9 => ?_)
    · replace h := bif_t hb9 h
      refine AW.skip ?_
      refine AW.seq ?_
      refine AW.block ?_
      refine AW.seq ?_
      refine AW.reg hS [(0, .pv (.slice (List.map User.pv a1))), (1, .pv (.slice (List.map User.pv b2))), (5, .pv (.int .i64 i5)), (12, .pv (.int .i64 (a1.length : Int))), (13, .pv (.int .i64 i5))] [] ?_ ?_
      · simp -implicitDefEqProofs only [RUNS, qindex, Nat.reduceAdd, Nat.reduceLeDiff, Nat.reduceSub, reduceIte, Nat.reduceEqDiff, Nat.reduceLT, reduceCtorEq, Nat.reduceMul, if_true, if_false, eq_self, ne_eq, env_bT, P30_eq, User.pv_eq]
      refine AW.seq ?_
      replace h := Option.bind_eq_some_iff.1 h; obtain ⟨u10, q11, h⟩ := h
      have f12 := lidx_f q11
      replace h := Option.bind_eq_some_iff.1 h; obtain ⟨u13, q14, h⟩ := h
      have f15 := lidx_f q14
      replace h := Option.bind_eq_some_iff.1 h; obtain ⟨r16, q17, h⟩ := h
      have f18 := c_F20 u10 u13 r16 q17
      try dsimp only at f18
      refine AW.dreg mixed hS (hpf ▸ (by kernel_rfl : orderOK pfn _ = true)) [(0, .pv (.slice (List.map User.pv a1))), (1, .pv (.slice (List.map User.pv b2))), (12, .pv (.int .i64 (a1.length : Int))), (13, .pv (.int .i64 i5)), (25, .pv (.bool (!r16)))] [] ?_ ?_
      · simp -implicitDefEqProofs only [RUNS, qindex, Nat.reduceAdd, Nat.reduceLeDiff, Nat.reduceSub, reduceIte, Nat.reduceEqDiff, Nat.reduceLT, reduceCtorEq, Nat.reduceMul, if_true, if_false, eq_self, ne_eq, env_bT, T_24, T_32, P30_eq, User.pv_eq, f12.1, f12.2.1, f15.1, f15.2.1, pf_20, f18]
      refine AW.cond (b := !r16) rfl (fun hb19 => ?_) (fun hb19 => ?_)
      · replace h := bif_t hb19 h
        refine AW.seq ?_
        refine AW.reg hS [(4, .pv (.bool false))] [] ?_ ?_
        · simp -implicitDefEqProofs only [RUNS, qindex, Nat.reduceAdd, Nat.reduceLeDiff, Nat.reduceSub, reduceIte, Nat.reduceEqDiff, Nat.reduceLT, reduceCtorEq, Nat.reduceMul, if_true, if_false, eq_self, ne_eq, env_bT, P30_eq, User.pv_eq]
        refine AW.ret ?_
        cases h
        show finish _ _ _ _ _ = _
        first | rfl | (simp [finish, resOf, renArgs, toPV, selObjs, sl])
      · replace h := bif_f hb19 h
        refine AW.skip ?_
        refine AW.reg hS [(0, .pv (.slice (List.map User.pv a1))), (1, .pv (.slice (List.map User.pv b2))), (12, .pv (.int .i64 (a1.length : Int))), (13, .pv (.int .i64 (IntKind.wrap .i64 (i5 + 1))))] [] ?_ ?_
        · simp -implicitDefEqProofs only [RUNS, qindex, Nat.reduceAdd, Nat.reduceLeDiff, Nat.reduceSub, reduceIte, Nat.reduceEqDiff, Nat.reduceLT, reduceCtorEq, Nat.reduceMul, if_true, if_false, eq_self, ne_eq, env_bT, T_3, P30_eq, User.pv_eq]
        exact ⟨(m8, IntKind.wrap .i64 (i5 + 1)), h, (Weak.norm (m := 0) (Nat.le_of_ble_eq_true rfl) ⟨rfl, rfl, rfl, rfl, trivial⟩ rfl rfl rfl), Nat.lt_succ_self _⟩
    · replace h := bif_f hb9 h
      refine AW.exit ?_
      refine AW.seq ?_
      refine AW.reg hS [(4, .pv (.bool true))] [] ?_ ?_
      · simp -implicitDefEqProofs only [RUNS, qindex, Nat.reduceAdd, Nat.reduceLeDiff, Nat.reduceSub, reduceIte, Nat.reduceEqDiff, Nat.reduceLT, reduceCtorEq, Nat.reduceMul, if_true, if_false, eq_self, ne_eq, env_bT, P30_eq, User.pv_eq]
      refine AW.ret ?_
      cases h
      show finish _ _ _ _ _ = _
      first | rfl | (simp [finish, resOf, renArgs, toPV, selObjs, sl])

set_option maxHeartbeats 4000000 in
theorem g_F18 {O : Orc} (hS : Sound env O) (hpf : O.pf = pfn) (c_L_Clone : C_L_Clone O) (l1 : List User) (name2 : Str) (r3 : User) (r4 : Bool) (h : F18 l1 name2 = some (r3, r4)) : Good env 18 [.pv (.slice (List.map User.pv l1)), .pv (.str name2)] [] [.pv (.agg [.str r3.name_, .str r3.leader_, .slice (List.map PV.str r3.members_)]), .pv (.bool r4)] [] := by
  have pf_34 : O.pf 34 = true := by rw [hpf]; rfl
  refine Good.start (fn := Tryd.f18) (N := 25) rfl rfl rfl (by simp) [] _ rfl rfl ?_
  rw [F18] at h
  refine AW.seq ?_
  refine AW.reg hS [(0, .pv (.slice (List.map User.pv l1))), (1, .pv (.str name2)), (4, .ref 0 0)] [.var [.pv (.str []), .pv (.str []), .nils]] ?_ ?_
  · simp -implicitDefEqProofs only [RUNS, qindex, Nat.reduceAdd, Nat.reduceLeDiff, Nat.reduceSub, reduceIte, Nat.reduceEqDiff, Nat.reduceLT, reduceCtorEq, Nat.reduceMul, if_true, if_false, eq_self, ne_eq, env_bT, T_32, P30_eq, User.pv_eq]
  refine AW.seq ?_
  refine AW.seq ?_
  refine AW.reg hS [(1, .pv (.str name2)), (4, .ref 0 0), (8, .pv (.slice (List.map User.pv l1))), (9, .pv (.int .i64 (l1.length : Int))), (10, .pv (.int .i64 0))] [.var [.pv (.str []), .pv (.str []), .nils]] ?_ ?_
  · simp -implicitDefEqProofs only [RUNS, qindex, Nat.reduceAdd, Nat.reduceLeDiff, Nat.reduceSub, reduceIte, Nat.reduceEqDiff, Nat.reduceLT, reduceCtorEq, Nat.reduceMul, if_true, if_false, eq_self, ne_eq, env_bT, T_24, T_32, P30_eq, User.pv_eq]
  refine AW.block ?_
  refine AW.weak (Weak.slots (L := [(1, .pv (.str name2)), (4, .ref 0 0), (8, .pv (.slice (List.map User.pv l1))), (9, .pv (.int .i64 (l1.length : Int))), (10, .pv (.int .i64 0))]) ⟨rfl, rfl, rfl, rfl, rfl, trivial⟩) ?_
  refine AW.loopI (α := Nat × Int) (fun (_, i5) => ⟨sl [(1, .pv (.str name2)), (4, .ref 0 0), (8, .pv (.slice (List.map User.pv l1))), (9, .pv (.int .i64 (l1.length : Int))), (10, .pv (.int .i64 i5))], 25, [.var [.pv (.str []), .pv (.str []), .nils]]⟩) (fun x => iter (F18_b1 l1 name2) x.1 x.2 = some (r3, r4)) (fun x => x.1) (BIG, 0) h ?_
  clear h
  intro ⟨n17, i5⟩ h
  replace h := iter_some h; obtain ⟨m8, rfl, h⟩ := h
  rw [F18_b1] at h
  try dsimp only at h
  show AW _ _ _ _ ⟨sl [(1, .pv (.str name2)), (4, .ref 0 0), (8, .pv (.slice (List.map User.pv l1))), (9, .pv (.int .i64 (l1.length : Int))), (10, .pv (.int .i64 i5))], 25, [.var [.pv (.str []), .pv (.str []), .nils]]⟩
  refine AW.seq ?_
  refine AW.reg hS [(1, .pv (.str name2)), (4, .ref 0 0), (8, .pv (.slice (List.map User.pv l1))), (9, .pv (.int .i64 (l1.length : Int))), (10, .pv (.int .i64 i5)), (11, .pv (.bool (decide (i5 < (l1.length : Int)))))] [.var [.pv (.str []), .pv (.str []), .nils]] ?_ ?_
  · simp -implicitDefEqProofs only [RUNS, qindex, Nat.reduceAdd, Nat.reduceLeDiff, Nat.reduceSub, reduceIte, Nat.reduceEqDiff, Nat.reduceLT, reduceCtorEq, Nat.reduceMul, if_true, if_false, eq_self, ne_eq, env_bT, T_3, P30_eq, User.pv_eq]
  refine AW.seq ?_
  refine AW.cond (b := decide (i5 < (l1.length : Int))) rfl (fun hb9 => ?_) (fun hb9 => ?_)
  · replace h := bif_t hb9 h
    refine AW.skip ?_
    refine AW.seq ?_
    refine AW.block ?_
    refine AW.seq ?_
    replace h := Option.bind_eq_some_iff.1 h; obtain ⟨u10, q11, h⟩ := h
    have f12 := lidx_f q11
    refine AW.reg hS [(1, .pv (.str name2)), (4, .ref 0 0), (7, .ref 1 0), (8, .pv (.slice (List.map User.pv l1))), (9, .pv (.int .i64 (l1.length : Int))), (10, .pv (.int .i64 i5))] [.var [.pv (.str []), .pv (.str []), .nils], .var [.pv (.str u10.name_), .pv (.str u10.leader_), .pv (.slice (List.map PV.str u10.members_))]] ?_ ?_
    · simp -implicitDefEqProofs only [RUNS, qindex, Nat.reduceAdd, Nat.reduceLeDiff, Nat.reduceSub, reduceIte, Nat.reduceEqDiff, Nat.reduceLT, reduceCtorEq, Nat.reduceMul, if_true, if_false, eq_self, ne_eq, env_bT, T_24, T_32, P30_eq, User.pv_eq, f12.1, f12.2.1]
    refine AW.seq ?_
    refine AW.reg hS [(1, .pv (.str name2)), (4, .ref 0 0), (7, .ref 1 0), (8, .pv (.slice (List.map User.pv l1))), (9, .pv (.int .i64 (l1.length : Int))), (10, .pv (.int .i64 i5)), (17, .pv (.bool (decide (u10.name_ = name2))))] [.var [.pv (.str []), .pv (.str []), .nils], .var [.pv (.str u10.name_), .pv (.str u10.leader_), .pv (.slice (List.map PV.str u10.members_))]] ?_ ?_
    · simp -implicitDefEqProofs only [RUNS, qindex, Nat.reduceAdd, Nat.reduceLeDiff, Nat.reduceSub, reduceIte, Nat.reduceEqDiff, Nat.reduceLT, reduceCtorEq, Nat.reduceMul, if_true, if_false, eq_self, ne_eq, env_bT, T_9, T_32, P30_eq, User.pv_eq]
    refine AW.cond (b := decide (u10.name_ = name2)) rfl (fun hb13 => ?_) (fun hb13 => ?_)
    · replace h := bif_t hb13 h
      refine AW.seq ?_
      replace h := Option.bind_eq_some_iff.1 h; obtain ⟨l14, q15, h⟩ := h
      have f16 := c_L_Clone u10.members_ l14 q15
      try dsimp only at f16
      refine AW.reg hS [(4, .ref 0 0), (7, .ref 1 0)] [.var [.pv (.str []), .pv (.str []), .nils], .var [.pv (.str u10.name_), .pv (.str u10.leader_), .pv (.slice (List.map PV.str l14))]] ?_ ?_
      · simp -implicitDefEqProofs only [RUNS, qindex, Nat.reduceAdd, Nat.reduceLeDiff, Nat.reduceSub, reduceIte, Nat.reduceEqDiff, Nat.reduceLT, reduceCtorEq, Nat.reduceMul, if_true, if_false, eq_self, ne_eq, env_bT, T_9, T_30, T_32, P30_eq, User.pv_eq, pf_34, f16]
      refine AW.seq ?_
      refine AW.reg hS [(4, .ref 0 0), (5, .pv (.bool true))] [.var [.pv (.str u10.name_), .pv (.str u10.leader_), .pv (.slice (List.map PV.str l14))], .var [.pv (.str u10.name_), .pv (.str u10.leader_), .pv (.slice (List.map PV.str l14))]] ?_ ?_
      · simp -implicitDefEqProofs only [RUNS, qindex, Nat.reduceAdd, Nat.reduceLeDiff, Nat.reduceSub, reduceIte, Nat.reduceEqDiff, Nat.reduceLT, reduceCtorEq, Nat.reduceMul, if_true, if_false, eq_self, ne_eq, env_bT, T_32, P30_eq, User.pv_eq]
      refine AW.ret ?_
      cases h
      show finish _ _ _ _ _ = _
      first | rfl | (simp [finish, resOf, renArgs, toPV, selObjs, sl])
    · replace h := bif_f hb13 h
      refine AW.skip ?_
      refine AW.reg hS [(1, .pv (.str name2)), (4, .ref 0 0), (8, .pv (.slice (List.map User.pv l1))), (9, .pv (.int .i64 (l1.length : Int))), (10, .pv (.int .i64 (IntKind.wrap .i64 (i5 + 1))))] [.var [.pv (.str []), .pv (.str []), .nils], .var [.pv (.str u10.name_), .pv (.str u10.leader_), .pv (.slice (List.map PV.str u10.members_))]] ?_ ?_
      · simp -implicitDefEqProofs only [RUNS, qindex, Nat.reduceAdd, Nat.reduceLeDiff, Nat.reduceSub, reduceIte, Nat.reduceEqDiff, Nat.reduceLT, reduceCtorEq, Nat.reduceMul, if_true, if_false, eq_self, ne_eq, env_bT, T_3, P30_eq, User.pv_eq]
      exact ⟨(m8, IntKind.wrap .i64 (i5 + 1)), h, (Weak.norm (m := 1) (Nat.le_of_ble_eq_true rfl) ⟨rfl, rfl, rfl, rfl, rfl, trivial⟩ rfl rfl rfl), Nat.lt_succ_self _⟩
  · replace h := bif_f hb9 h
    refine AW.exit ?_
    refine AW.seq ?_
    refine AW.reg hS [(4, .ref 0 0), (5, .pv (.bool false))] [.var [.pv (.str []), .pv (.str []), .pv (.slice (List.map PV.str []))]] ?_ ?_
    · simp -implicitDefEqProofs only [RUNS, qindex, Nat.reduceAdd, Nat.reduceLeDiff, Nat.reduceSub, reduceIte, Nat.reduceEqDiff, Nat.reduceLT, reduceCtorEq, Nat.reduceMul, if_true, if_false, eq_self, ne_eq, env_bT, T_32, P30_eq, User.pv_eq]
    refine AW.ret ?_
    cases h
    show finish _ _ _ _ _ = _
    first | rfl | (simp [finish, resOf, renArgs, toPV, selObjs, sl])

set_option maxHeartbeats 4000000 in
theorem g_F21 {O : Orc} (hS : Sound env O) (hpf : O.pf = pfn) (c_F18 : C_F18 O) (c_L_Contains : C_L_Contains O) (l1 : List User) (user2 : Str) (group3 : Str) (r4 : Bool) (h : F21 l1 user2 group3 = some r4) : Good env 21 [.pv (.slice (List.map User.pv l1)), .pv (.str user2), .pv (.str group3)] [] [.pv (.bool r4)] [] := by
  have pf_18 : O.pf 18 = true := by rw [hpf]; rfl
  have pf_36 : O.pf 36 = true := by rw [hpf]; rfl
  refine Good.start (fn := Tryd.f21) (N := 25) rfl rfl rfl (by simp) [] _ rfl rfl ?_
  rw [F21] at h
  refine AW.seq ?_
  refine AW.reg hS [(0, .pv (.slice (List.map User.pv l1))), (1, .pv (.str user2)), (2, .pv (.str group3))] [] ?_ ?_
  · simp -implicitDefEqProofs only [RUNS, qindex, Nat.reduceAdd, Nat.reduceLeDiff, Nat.reduceSub, reduceIte, Nat.reduceEqDiff, Nat.reduceLT, reduceCtorEq, Nat.reduceMul, if_true, if_false, eq_self, ne_eq, env_bT, P30_eq, User.pv_eq]
  refine AW.seq ?_
  refine AW.seq ?_
  refine AW.reg hS [(0, .pv (.slice (List.map User.pv l1))), (1, .pv (.str user2)), (2, .pv (.str group3)), (11, .pv (.bool (decide (user2 = group3))))] [] ?_ ?_
  · simp -implicitDefEqProofs only [RUNS, qindex, Nat.reduceAdd, Nat.reduceLeDiff, Nat.reduceSub, reduceIte, Nat.reduceEqDiff, Nat.reduceLT, reduceCtorEq, Nat.reduceMul, if_true, if_false, eq_self, ne_eq, env_bT, T_9, P30_eq, User.pv_eq]
  refine AW.cond (b := decide (user2 = group3)) rfl (fun hb5 => ?_) (fun hb5 => ?_)
  · replace h := bif_t hb5 h
    refine AW.seq ?_
    refine AW.reg hS [(6, .pv (.bool true))] [] ?_ ?_
    · simp -implicitDefEqProofs only [RUNS, qindex, Nat.reduceAdd, Nat.reduceLeDiff, Nat.reduceSub, reduceIte, Nat.reduceEqDiff, Nat.reduceLT, reduceCtorEq, Nat.reduceMul, if_true, if_false, eq_self, ne_eq, env_bT, P30_eq, User.pv_eq]
    refine AW.ret ?_
    cases h
    show finish _ _ _ _ _ = _
    first | rfl | (simp [finish, resOf, renArgs, toPV, selObjs, sl])
  · replace h := bif_f hb5 h
    refine AW.skip ?_
    refine AW.seq ?_
    replace h := Option.bind_eq_some_iff.1 h; obtain ⟨⟨r6, r7⟩, q8, h⟩ := h
    dsimp only at h
    have f9 := c_F18 l1 group3 r6 r7 q8
    try dsimp only at f9
    refine AW.reg hS [(1, .pv (.str user2)), (7, .ref 0 0), (8, .pv (.bool r7))] [.var [.pv (.str r6.name_), .pv (.str r6.leader_), .pv (.slice (List.map PV.str r6.members_))]] ?_ ?_
    · simp -implicitDefEqProofs only [RUNS, qindex, Nat.reduceAdd, Nat.reduceLeDiff, Nat.reduceSub, reduceIte, Nat.reduceEqDiff, Nat.reduceLT, reduceCtorEq, Nat.reduceMul, if_true, if_false, eq_self, ne_eq, env_bT, T_9, T_24, T_32, P30_eq, User.pv_eq, pf_18, f9]
    refine AW.seq ?_
    replace h := Option.bind_eq_some_iff.1 h; obtain ⟨ok10, q11, h⟩ := h
    have f12 := fun hg => c_L_Contains r6.members_ user2 ok10 (guardO_t q11 hg)
    try dsimp only at f12
    refine AW.reg hS [(6, .pv (.bool (r7 && ok10)))] [.var [.pv (.str r6.name_), .pv (.str r6.leader_), .pv (.slice (List.map PV.str r6.members_))]] ?_ ?_
    · clear h
      (simp -implicitDefEqProofs only [RUNS, qindex, Nat.reduceAdd, Nat.reduceLeDiff, Nat.reduceSub, reduceIte, Nat.reduceEqDiff, Nat.reduceLT, reduceCtorEq, Nat.reduceMul, if_true, if_false, eq_self, ne_eq, env_bT, T_9, T_30, T_32, P30_eq, User.pv_eq, pf_36, f12]); repeat' (split <;> rename_i hb <;> (try simp only [HBS, ge_iff_le, gt_iff_lt] at hb) <;> simp -implicitDefEqProofs only [RUNS, qindex, Nat.reduceAdd, Nat.reduceLeDiff, Nat.reduceSub, reduceIte, Nat.reduceEqDiff, Nat.reduceLT, reduceCtorEq, Nat.reduceMul, if_true, if_false, eq_self, ne_eq, env_bT, T_9, T_30, T_32, P30_eq, User.pv_eq, pf_36, f12, *, decide_true, decide_false, Decidable.not_not, not_false_eq_true, not_true_eq_false])
      all_goals (first | (simp only [BOOLS]; done) | (simp [*]; done) | ((try simp only [CLOS, beq_iff_eq, bne_iff_ne, ne_eq] at *) <;> omega) | (simp_all; done) | (simp_all <;> omega))
    refine AW.ret ?_
    cases h
    show finish _ _ _ _ _ = _
    first | rfl | (simp [finish, resOf, renArgs, toPV, selObjs, sl])

set_option maxHeartbeats 4000000 in
theorem g_F23 {O : Orc} (hS : Sound env O) (hpf : O.pf = pfn) (c_F18 : C_F18 O) (c_F21 : C_F21 O) (l1 : List User) (user2 : Str) (group3 : Str) (r4 : Bool) (h : F23 l1 user2 group3 = some r4) : Good env 23 [.pv (.slice (List.map User.pv l1)), .pv (.str user2), .pv (.str group3)] [] [.pv (.bool r4)] [] := by
  have pf_18 : O.pf 18 = true := by rw [hpf]; rfl
  have pf_21 : O.pf 21 = true := by rw [hpf]; rfl
  refine Good.start (fn := Tryd.f23) (N := 29) rfl rfl rfl (by simp) [] _ rfl rfl ?_
  rw [F23] at h
  refine AW.seq ?_
  refine AW.reg hS [(0, .pv (.slice (List.map User.pv l1))), (1, .pv (.str user2)), (2, .pv (.str group3))] [] ?_ ?_
  · simp -implicitDefEqProofs only [RUNS, qindex, Nat.reduceAdd, Nat.reduceLeDiff, Nat.reduceSub, reduceIte, Nat.reduceEqDiff, Nat.reduceLT, reduceCtorEq, Nat.reduceMul, if_true, if_false, eq_self, ne_eq, env_bT, P30_eq, User.pv_eq]
  refine AW.seq ?_
  refine AW.seq ?_
  replace h := Option.bind_eq_some_iff.1 h; obtain ⟨⟨r5, r6⟩, q7, h⟩ := h
  dsimp only at h
  have f8 := c_F18 l1 group3 r5 r6 q7
  try dsimp only at f8
  refine AW.reg hS [(0, .pv (.slice (List.map User.pv l1))), (1, .pv (.str user2)), (2, .pv (.str group3)), (7, .ref 0 0), (8, .pv (.bool r6))] [.var [.pv (.str r5.name_), .pv (.str r5.leader_), .pv (.slice (List.map PV.str r5.members_))]] ?_ ?_
  · simp -implicitDefEqProofs only [RUNS, qindex, Nat.reduceAdd, Nat.reduceLeDiff, Nat.reduceSub, reduceIte, Nat.reduceEqDiff, Nat.reduceLT, reduceCtorEq, Nat.reduceMul, if_true, if_false, eq_self, ne_eq, env_bT, T_9, T_24, T_32, P30_eq, User.pv_eq, pf_18, f8]
  refine AW.seq ?_
  refine AW.reg hS [(0, .pv (.slice (List.map User.pv l1))), (1, .pv (.str user2)), (2, .pv (.str group3)), (7, .ref 0 0), (20, .pv (.bool (r6 && !decide (r5.leader_ = []))))] [.var [.pv (.str r5.name_), .pv (.str r5.leader_), .pv (.slice (List.map PV.str r5.members_))]] ?_ ?_
  · clear h
    (simp -implicitDefEqProofs only [RUNS, qindex, Nat.reduceAdd, Nat.reduceLeDiff, Nat.reduceSub, reduceIte, Nat.reduceEqDiff, Nat.reduceLT, reduceCtorEq, Nat.reduceMul, if_true, if_false, eq_self, ne_eq, env_bT, T_9, T_32, P30_eq, User.pv_eq]); repeat' (split <;> rename_i hb <;> (try simp only [HBS, ge_iff_le, gt_iff_lt] at hb) <;> simp -implicitDefEqProofs only [RUNS, qindex, Nat.reduceAdd, Nat.reduceLeDiff, Nat.reduceSub, reduceIte, Nat.reduceEqDiff, Nat.reduceLT, reduceCtorEq, Nat.reduceMul, if_true, if_false, eq_self, ne_eq, env_bT, T_9, T_32, P30_eq, User.pv_eq, *, decide_true, decide_false, Decidable.not_not, not_false_eq_true, not_true_eq_false])
    all_goals (first | (simp only [BOOLS]; done) | (simp [*]; done) | ((try simp only [CLOS, beq_iff_eq, bne_iff_ne, ne_eq] at *) <;> omega) | (simp_all; done) | (simp_all <;> omega))
  refine AW.cond (b := (r6 && !decide (r5.leader_ = []))) rfl (fun hb9 => ?_) (fun hb9 => ?_)
  · replace h := bif_t hb9 h
    refine AW.seq ?_
    refine AW.reg hS [(6, .pv (.bool (decide (r5.leader_ = user2))))] [.var [.pv (.str r5.name_), .pv (.str r5.leader_), .pv (.slice (List.map PV.str r5.members_))]] ?_ ?_
    · simp -implicitDefEqProofs only [RUNS, qindex, Nat.reduceAdd, Nat.reduceLeDiff, Nat.reduceSub, reduceIte, Nat.reduceEqDiff, Nat.reduceLT, reduceCtorEq, Nat.reduceMul, if_true, if_false, eq_self, ne_eq, env_bT, T_9, T_32, P30_eq, User.pv_eq]
    refine AW.ret ?_
    cases h
    show finish _ _ _ _ _ = _
    first | rfl | (simp [finish, resOf, renArgs, toPV, selObjs, sl])
  · replace h := bif_f hb9 h
    refine AW.skip ?_
    refine AW.seq ?_
    replace h := Option.bind_eq_some_iff.1 h; obtain ⟨r10, q11, h⟩ := h
    have f12 := c_F21 l1 user2 group3 r10 q11
    try dsimp only at f12
    refine AW.reg hS [(6, .pv (.bool r10))] [.var [.pv (.str r5.name_), .pv (.str r5.leader_), .pv (.slice (List.map PV.str r5.members_))]] ?_ ?_
    · simp -implicitDefEqProofs only [RUNS, qindex, Nat.reduceAdd, Nat.reduceLeDiff, Nat.reduceSub, reduceIte, Nat.reduceEqDiff, Nat.reduceLT, reduceCtorEq, Nat.reduceMul, if_true, if_false, eq_self, ne_eq, env_bT, T_9, T_24, T_32, P30_eq, User.pv_eq, pf_21, f12]
    refine AW.ret ?_
    cases h
    show finish _ _ _ _ _ = _
    first | rfl | (simp [finish, resOf, renArgs, toPV, selObjs, sl])

set_option maxHeartbeats 4000000 in
theorem g_F10 {O : Orc} (hS : Sound env O) (hpf : O.pf = pfn) (c_F28 : C_F28 O) (c_F14 : C_F14 O) (c_F25 : C_F25 O) (c_F27 : C_F27 O) (c_F18 : C_F18 O) (c_F11 : C_F11 O) (c_F16 : C_F16 O) (c_F21 : C_F21 O) (c_F23 : C_F23 O)  (r1 : Bool) (h : F10 = some r1) : Good env 10 [] [] [.pv (.bool r1)] [] := by
  have pf_11 : O.pf 11 = true := by rw [hpf]; rfl
  have pf_14 : O.pf 14 = true := by rw [hpf]; rfl
  have pf_16 : O.pf 16 = true := by rw [hpf]; rfl
  have pf_18 : O.pf 18 = true := by rw [hpf]; rfl
  have pf_21 : O.pf 21 = true := by rw [hpf]; rfl
  have pf_23 : O.pf 23 = true := by rw [hpf]; rfl
  have pf_25 : O.pf 25 = true := by rw [hpf]; rfl
  have pf_27 : O.pf 27 = true := by rw [hpf]; rfl
  have pf_28 : O.pf 28 = true := by rw [hpf]; rfl
  refine Good.start (fn := Tryd.f10) (N := 87) rfl rfl rfl (by simp) [] _ rfl rfl ?_
  rw [F10] at h
  refine AW.seq ?_
  refine AW.reg hS [] [] ?_ ?_
  · simp -implicitDefEqProofs only [RUNS, qindex, Nat.reduceAdd, Nat.reduceLeDiff, Nat.reduceSub, reduceIte, Nat.reduceEqDiff, Nat.reduceLT, reduceCtorEq, Nat.reduceMul, if_true, if_false, eq_self, ne_eq, env_bT, P30_eq, User.pv_eq]
  refine AW.seq ?_
  replace h := Option.bind_eq_some_iff.1 h; obtain ⟨r2, q3, h⟩ := h
  have f4 := c_F28 r2 q3
  try dsimp only at f4
  replace h := Option.bind_eq_some_iff.1 h; obtain ⟨⟨r5, r6⟩, q7, h⟩ := h
  dsimp only at h
  have f8 := c_F14 r2 r5 r6 q7
  try dsimp only at f8
  refine AW.reg hS [(1, .pv (.str r5)), (2, .pv (.int .i64 r6))] [] ?_ ?_
  · simp -implicitDefEqProofs only [RUNS, qindex, Nat.reduceAdd, Nat.reduceLeDiff, Nat.reduceSub, reduceIte, Nat.reduceEqDiff, Nat.reduceLT, reduceCtorEq, Nat.reduceMul, if_true, if_false, eq_self, ne_eq, env_bT, T_24, T_32, P30_eq, User.pv_eq, pf_28, f4, pf_14, f8]
  refine AW.seq ?_
  replace h := Option.bind_eq_some_iff.1 h; obtain ⟨⟨r9, r10, r11⟩, q12, h⟩ := h
  dsimp only at h
  have f13 := c_F25 [97, 100, 109, 58, 97, 110, 110, 58, 97, 110, 110, 44, 98, 111, 98, 10, 97, 110, 110, 58, 58, 10, 98, 111, 98, 58, 58, 10] r9 r10 r11 q12
  try dsimp only at f13
  try simp only [List.map_cons, List.map_nil, P30_eq, User.pv_eq] at f13
  refine AW.reg hS [(1, .pv (.str r5)), (2, .pv (.int .i64 r6)), (3, .pv (.slice (List.map User.pv r9))), (5, .pv (.int .i64 r11))] [] ?_ ?_
  · simp -implicitDefEqProofs only [RUNS, qindex, Nat.reduceAdd, Nat.reduceLeDiff, Nat.reduceSub, reduceIte, Nat.reduceEqDiff, Nat.reduceLT, reduceCtorEq, Nat.reduceMul, if_true, if_false, eq_self, ne_eq, env_bT, T_9, P30_eq, User.pv_eq, pf_25, f13]
  refine AW.seq ?_
  replace h := Option.bind_eq_some_iff.1 h; obtain ⟨⟨r14, r15, r16⟩, q17, h⟩ := h
  dsimp only at h
  have f18 := c_F25 [97, 100, 109, 58, 58, 10, 97, 110, 110, 58, 10] r14 r15 r16 q17
  try dsimp only at f18
  try simp only [List.map_cons, List.map_nil, P30_eq, User.pv_eq] at f18
  refine AW.reg hS [(1, .pv (.str r5)), (2, .pv (.int .i64 r6)), (3, .pv (.slice (List.map User.pv r9))), (5, .pv (.int .i64 r11)), (7, .pv (.int .i64 r15)), (8, .pv (.int .i64 r16))] [] ?_ ?_
  · simp -implicitDefEqProofs only [RUNS, qindex, Nat.reduceAdd, Nat.reduceLeDiff, Nat.reduceSub, reduceIte, Nat.reduceEqDiff, Nat.reduceLT, reduceCtorEq, Nat.reduceMul, if_true, if_false, eq_self, ne_eq, env_bT, T_9, P30_eq, User.pv_eq, pf_25, f18]
  refine AW.seq ?_
  refine AW.seq ?_
  replace h := Option.bind_eq_some_iff.1 h; obtain ⟨r19, q20, h⟩ := h
  have f21 := fun hg => c_F27 r9 r2 r19 (guardO_t q20 hg)
  try dsimp only at f21
  refine AW.reg hS [(49, .pv (.bool (((((!decide (r5 = [97, 100, 109, 58, 97, 110, 110, 58, 97, 110, 110, 44, 98, 111, 98, 10, 97, 110, 110, 58, 58, 10, 98, 111, 98, 58, 58, 10]) || !decide (r6 = 0)) || !r19) || !decide (r11 = 0)) || !decide (r15 = 1)) || !decide (r16 = 2))))] [] ?_ ?_
  · clear h
    (simp -implicitDefEqProofs only [RUNS, qindex, Nat.reduceAdd, Nat.reduceLeDiff, Nat.reduceSub, reduceIte, Nat.reduceEqDiff, Nat.reduceLT, reduceCtorEq, Nat.reduceMul, if_true, if_false, eq_self, ne_eq, env_bT, T_3, T_9, T_24, T_26, T_32, P30_eq, User.pv_eq, pf_28, f4, pf_27, f21]); repeat' (split <;> rename_i hb <;> (try simp only [HBS, ge_iff_le, gt_iff_lt] at hb) <;> simp -implicitDefEqProofs only [RUNS, qindex, Nat.reduceAdd, Nat.reduceLeDiff, Nat.reduceSub, reduceIte, Nat.reduceEqDiff, Nat.reduceLT, reduceCtorEq, Nat.reduceMul, if_true, if_false, eq_self, ne_eq, env_bT, T_3, T_9, T_24, T_26, T_32, P30_eq, User.pv_eq, pf_28, f4, pf_27, f21, *, decide_true, decide_false, Decidable.not_not, not_false_eq_true, not_true_eq_false])
    all_goals (first | (simp only [BOOLS]; done) | (simp [*]; done) | ((try simp only [CLOS, beq_iff_eq, bne_iff_ne, ne_eq] at *) <;> omega) | (simp_all; done) | (simp_all <;> omega))
  refine AW.cond (b := (((((!decide (r5 = [97, 100, 109, 58, 97, 110, 110, 58, 97, 110, 110, 44, 98, 111, 98, 10, 97, 110, 110, 58, 58, 10, 98, 111, 98, 58, 58, 10]) || !decide (r6 = 0)) || !r19) || !decide (r11 = 0)) || !decide (r15 = 1)) || !decide (r16 = 2))) rfl (fun hb22 => ?_) (fun hb22 => ?_)
  · replace h := bif_t hb22 h
    refine AW.seq ?_
    refine AW.reg hS [(0, .pv (.bool false))] [] ?_ ?_
    · simp -implicitDefEqProofs only [RUNS, qindex, Nat.reduceAdd, Nat.reduceLeDiff, Nat.reduceSub, reduceIte, Nat.reduceEqDiff, Nat.reduceLT, reduceCtorEq, Nat.reduceMul, if_true, if_false, eq_self, ne_eq, env_bT, P30_eq, User.pv_eq]
    refine AW.ret ?_
    cases h
    show finish _ _ _ _ _ = _
    first | rfl | (simp [finish, resOf, renArgs, toPV, selObjs, sl])
  · replace h := bif_f hb22 h
    refine AW.skip ?_
    refine AW.seq ?_
    replace h := Option.bind_eq_some_iff.1 h; obtain ⟨⟨r23, r24⟩, q25, h⟩ := h
    dsimp only at h
    have f26 := c_F18 r2 [97, 110, 110] r23 r24 q25
    try dsimp only at f26
    try simp only [List.map_cons, List.map_nil, P30_eq, User.pv_eq] at f26
    refine AW.reg hS [(9, .ref 0 0), (10, .pv (.bool r24))] [.var [.pv (.str r23.name_), .pv (.str r23.leader_), .pv (.slice (List.map PV.str r23.members_))]] ?_ ?_
    · simp -implicitDefEqProofs only [RUNS, qindex, Nat.reduceAdd, Nat.reduceLeDiff, Nat.reduceSub, reduceIte, Nat.reduceEqDiff, Nat.reduceLT, reduceCtorEq, Nat.reduceMul, if_true, if_false, eq_self, ne_eq, env_bT, T_9, T_24, T_32, P30_eq, User.pv_eq, pf_28, f4, pf_18, f26]
    refine AW.seq ?_
    replace h := Option.bind_eq_some_iff.1 h; obtain ⟨r27, q28, h⟩ := h
    have f29 := fun hg => c_F11 [97, 110, 110, 45, 50] r27 (guardO_t q28 hg)
    try dsimp only at f29
    try simp only [List.map_cons, List.map_nil, P30_eq, User.pv_eq] at f29
    replace h := Option.bind_eq_some_iff.1 h; obtain ⟨r30, q31, h⟩ := h
    have f32 := fun hg => c_F11 [50, 97, 110, 110] r30 (guardO_t q31 hg)
    try dsimp only at f32
    try simp only [List.map_cons, List.map_nil, P30_eq, User.pv_eq] at f32
    replace h := Option.bind_eq_some_iff.1 h; obtain ⟨r33, q34, h⟩ := h
    have f35 := fun hg => c_F16 [User.mk [97, 100, 109] [97, 110, 110] []] r33 (guardO_t q34 hg)
    try dsimp only at f35
    try simp only [List.map_cons, List.map_nil, P30_eq, User.pv_eq] at f35
    replace h := Option.bind_eq_some_iff.1 h; obtain ⟨r36, q37, h⟩ := h
    have f38 := fun hg => c_F21 r2 [98, 111, 98] [97, 100, 109] r36 (guardO_t q37 hg)
    try dsimp only at f38
    try simp only [List.map_cons, List.map_nil, P30_eq, User.pv_eq] at f38
    replace h := Option.bind_eq_some_iff.1 h; obtain ⟨r39, q40, h⟩ := h
    have f41 := fun hg => c_F23 r2 [97, 110, 110] [97, 100, 109] r39 (guardO_t q40 hg)
    try dsimp only at f41
    try simp only [List.map_cons, List.map_nil, P30_eq, User.pv_eq] at f41
    replace h := Option.bind_eq_some_iff.1 h; obtain ⟨r42, q43, h⟩ := h
    have f44 := fun hg => c_F23 r2 [98, 111, 98] [97, 100, 109] r42 (guardO_t q43 hg)
    try dsimp only at f44
    try simp only [List.map_cons, List.map_nil, P30_eq, User.pv_eq] at f44
    refine AW.reg hS [(0, .pv (.bool (((((((r24 && decide (r23.name_ = [97, 110, 110])) && r27) && !r30) && decide (r33 = 26)) && r36) && r39) && !r42)))] [.var [.pv (.str r23.name_), .pv (.str r23.leader_), .pv (.slice (List.map PV.str r23.members_))]] ?_ ?_
    · clear h
      (simp -implicitDefEqProofs only [RUNS, qindex, Nat.reduceAdd, Nat.reduceLeDiff, Nat.reduceSub, reduceIte, Nat.reduceEqDiff, Nat.reduceLT, reduceCtorEq, Nat.reduceMul, if_true, if_false, eq_self, ne_eq, env_bT, T_9, T_24, T_26, T_32, P30_eq, User.pv_eq, pf_11, f29, f32, pf_16, f35, pf_28, f4, pf_21, f38, pf_23, f41, f44]); repeat' (split <;> rename_i hb <;> (try simp only [HBS, ge_iff_le, gt_iff_lt] at hb) <;> simp -implicitDefEqProofs only [RUNS, qindex, Nat.reduceAdd, Nat.reduceLeDiff, Nat.reduceSub, reduceIte, Nat.reduceEqDiff, Nat.reduceLT, reduceCtorEq, Nat.reduceMul, if_true, if_false, eq_self, ne_eq, env_bT, T_9, T_24, T_26, T_32, P30_eq, User.pv_eq, pf_11, f29, f32, pf_16, f35, pf_28, f4, pf_21, f38, pf_23, f41, f44, *, decide_true, decide_false, Decidable.not_not, not_false_eq_true, not_true_eq_false])
      all_goals (first | (simp only [BOOLS]; done) | (simp [*]; done) | ((try simp only [CLOS, beq_iff_eq, bne_iff_ne, ne_eq] at *) <;> omega) | (simp_all; done) | (simp_all <;> omega))
    refine AW.ret ?_
    cases h
    show finish _ _ _ _ _ = _
    first | rfl | (simp [finish, resOf, renArgs, toPV, selObjs, sl])

set_option maxHeartbeats 4000000 in
theorem g_F12 {O : Orc} (hS : Sound env O) (hpf : O.pf = pfn) (name1 : Str) (r2 : Bool) (h : F12 name1 = some r2) : Good env 12 [.pv (.str name1)] [] [.pv (.bool r2)] [] := by
  refine Good.start (fn := Tryd.f12) (N := 52) rfl rfl rfl (by simp) [] _ rfl rfl ?_
  rw [F12] at h
  refine AW.seq ?_
  refine AW.reg hS [(0, .pv (.str name1))] [] ?_ ?_
  · simp -implicitDefEqProofs only [RUNS, qindex, Nat.reduceAdd, Nat.reduceLeDiff, Nat.reduceSub, reduceIte, Nat.reduceEqDiff, Nat.reduceLT, reduceCtorEq, Nat.reduceMul, if_true, if_false, eq_self, ne_eq, env_bT, P30_eq, User.pv_eq]
  refine AW.seq ?_
  refine AW.seq ?_
  refine AW.reg hS [(0, .pv (.str name1)), (13, .pv (.bool (decide ((name1.length : Int) < 1) || decide (32 < (name1.length : Int)))))] [] ?_ ?_
  · clear h
    (simp -implicitDefEqProofs only [RUNS, qindex, Nat.reduceAdd, Nat.reduceLeDiff, Nat.reduceSub, reduceIte, Nat.reduceEqDiff, Nat.reduceLT, reduceCtorEq, Nat.reduceMul, if_true, if_false, eq_self, ne_eq, env_bT, T_3, T_9, P30_eq, User.pv_eq]); repeat' (split <;> rename_i hb <;> (try simp only [HBS, ge_iff_le, gt_iff_lt] at hb) <;> simp -implicitDefEqProofs only [RUNS, qindex, Nat.reduceAdd, Nat.reduceLeDiff, Nat.reduceSub, reduceIte, Nat.reduceEqDiff, Nat.reduceLT, reduceCtorEq, Nat.reduceMul, if_true, if_false, eq_self, ne_eq, env_bT, T_3, T_9, P30_eq, User.pv_eq, *, decide_true, decide_false, Decidable.not_not, not_false_eq_true, not_true_eq_false])
    all_goals (first | (simp only [BOOLS]; done) | (simp [*]; done) | ((try simp only [CLOS, beq_iff_eq, bne_iff_ne, ne_eq] at *) <;> omega) | (simp_all; done) | (simp_all <;> omega))
  refine AW.cond (b := (decide ((name1.length : Int) < 1) || decide (32 < (name1.length : Int)))) rfl (fun hb3 => ?_) (fun hb3 => ?_)
  · replace h := bif_t hb3 h
    refine AW.seq ?_
    refine AW.reg hS [(2, .pv (.bool false))] [] ?_ ?_
    · simp -implicitDefEqProofs only [RUNS, qindex, Nat.reduceAdd, Nat.reduceLeDiff, Nat.reduceSub, reduceIte, Nat.reduceEqDiff, Nat.reduceLT, reduceCtorEq, Nat.reduceMul, if_true, if_false, eq_self, ne_eq, env_bT, P30_eq, User.pv_eq]
    refine AW.ret ?_
    cases h
    show finish _ _ _ _ _ = _
    first | rfl | (simp [finish, resOf, renArgs, toPV, selObjs, sl])
  · replace h := bif_f hb3 h
    refine AW.skip ?_
    refine AW.seq ?_
    refine AW.seq ?_
    refine AW.reg hS [(0, .pv (.str name1)), (3, .pv (.int .i64 0))] [] ?_ ?_
    · simp -implicitDefEqProofs only [RUNS, qindex, Nat.reduceAdd, Nat.reduceLeDiff, Nat.reduceSub, reduceIte, Nat.reduceEqDiff, Nat.reduceLT, reduceCtorEq, Nat.reduceMul, if_true, if_false, eq_self, ne_eq, env_bT, P30_eq, User.pv_eq]
    refine AW.block ?_
    refine AW.weak (Weak.slots (L := [(0, .pv (.str name1)), (3, .pv (.int .i64 0))]) ⟨rfl, rfl, trivial⟩) ?_
    refine AW.loopI (α := Nat × Int) (fun (_, i4) => ⟨sl [(0, .pv (.str name1)), (3, .pv (.int .i64 i4))], 52, []⟩) (fun x => iter (F12_b1 name1) x.1 x.2 = some r2) (fun x => x.1) (BIG, 0) h ?_
    clear h
    intro ⟨n13, i4⟩ h
    replace h := iter_some h; obtain ⟨m7, rfl, h⟩ := h
    rw [F12_b1] at h
    try dsimp only at h
    show AW _ _ _ _ ⟨sl [(0, .pv (.str name1)), (3, .pv (.int .i64 i4))], 52, []⟩
    refine AW.seq ?_
    refine AW.seq ?_
    refine AW.reg hS [(0, .pv (.str name1)), (3, .pv (.int .i64 i4)), (17, .pv (.bool (decide (i4 < (name1.length : Int)))))] [] ?_ ?_
    · simp -implicitDefEqProofs only [RUNS, qindex, Nat.reduceAdd, Nat.reduceLeDiff, Nat.reduceSub, reduceIte, Nat.reduceEqDiff, Nat.reduceLT, reduceCtorEq, Nat.reduceMul, if_true, if_false, eq_self, ne_eq, env_bT, T_3, T_9, P30_eq, User.pv_eq]
    refine AW.cond (b := decide (i4 < (name1.length : Int))) rfl (fun hb8 => ?_) (fun hb8 => ?_)
    · replace h := bif_t hb8 h
      refine AW.skip ?_
      refine AW.seq ?_
      refine AW.block ?_
      refine AW.seq ?_
      replace h := Option.bind_eq_some_iff.1 h; obtain ⟨c9, q10, h⟩ := h
      have f11 := sidx_f q10
      refine AW.reg hS [(0, .pv (.str name1)), (3, .pv (.int .i64 i4)), (4, .pv (.int .u8 c9))] [] ?_ ?_
      · simp -implicitDefEqProofs only [RUNS, qindex, Nat.reduceAdd, Nat.reduceLeDiff, Nat.reduceSub, reduceIte, Nat.reduceEqDiff, Nat.reduceLT, reduceCtorEq, Nat.reduceMul, if_true, if_false, eq_self, ne_eq, env_bT, T_9, P30_eq, User.pv_eq, f11.1, f11.2.1, f11.2.2]
      refine AW.seq ?_
      refine AW.reg hS [(0, .pv (.str name1)), (3, .pv (.int .i64 i4)), (4, .pv (.int .u8 c9)), (5, .pv (.bool (decide (97 ≤ c9) && decide (c9 ≤ 122))))] [] ?_ ?_
      · clear h
        (simp -implicitDefEqProofs only [RUNS, qindex, Nat.reduceAdd, Nat.reduceLeDiff, Nat.reduceSub, reduceIte, Nat.reduceEqDiff, Nat.reduceLT, reduceCtorEq, Nat.reduceMul, if_true, if_false, eq_self, ne_eq, env_bT, T_5, P30_eq, User.pv_eq]); repeat' (split <;> rename_i hb <;> (try simp only [HBS, ge_iff_le, gt_iff_lt] at hb) <;> simp -implicitDefEqProofs only [RUNS, qindex, Nat.reduceAdd, Nat.reduceLeDiff, Nat.reduceSub, reduceIte, Nat.reduceEqDiff, Nat.reduceLT, reduceCtorEq, Nat.reduceMul, if_true, if_false, eq_self, ne_eq, env_bT, T_5, P30_eq, User.pv_eq, *, decide_true, decide_false, Decidable.not_not, not_false_eq_true, not_true_eq_false])
        all_goals (first | (simp only [BOOLS]; done) | (simp [*]; done) | ((try simp only [CLOS, beq_iff_eq, bne_iff_ne, ne_eq] at *) <;> omega) | (simp_all; done) | (simp_all <;> omega))
      refine AW.seq ?_
      refine AW.reg hS [(0, .pv (.str name1)), (3, .pv (.int .i64 i4)), (51, .pv (.bool (!(decide (97 ≤ c9) && decide (c9 ≤ 122)) && (decide (i4 = 0) || ((!(decide (48 ≤ c9) && decide (c9 ≤ 57)) && !decide (c9 = 45)) && !decide (c9 = 95))))))] [] ?_ ?_
      · clear h
        (simp -implicitDefEqProofs only [RUNS, qindex, Nat.reduceAdd, Nat.reduceLeDiff, Nat.reduceSub, reduceIte, Nat.reduceEqDiff, Nat.reduceLT, reduceCtorEq, Nat.reduceMul, if_true, if_false, eq_self, ne_eq, env_bT, T_3, T_5, P30_eq, User.pv_eq]); repeat' (split <;> rename_i hb <;> (try simp only [HBS, ge_iff_le, gt_iff_lt] at hb) <;> simp -implicitDefEqProofs only [RUNS, qindex, Nat.reduceAdd, Nat.reduceLeDiff, Nat.reduceSub, reduceIte, Nat.reduceEqDiff, Nat.reduceLT, reduceCtorEq, Nat.reduceMul, if_true, if_false, eq_self, ne_eq, env_bT, T_3, T_5, P30_eq, User.pv_eq, *, decide_true, decide_false, Decidable.not_not, not_false_eq_true, not_true_eq_false])
        all_goals (first | (simp only [BOOLS]; done) | (simp [*]; done) | ((try simp only [CLOS, beq_iff_eq, bne_iff_ne, ne_eq] at *) <;> omega) | (simp_all; done) | (simp_all <;> omega))
      refine AW.cond (b := (!(decide (97 ≤ c9) && decide (c9 ≤ 122)) && (decide (i4 = 0) || ((!(decide (48 ≤ c9) && decide (c9 ≤ 57)) && !decide (c9 = 45)) && !decide (c9 = 95))))) rfl (fun hb12 => ?_) (fun hb12 => ?_)
      · replace h := bif_t hb12 h
        refine AW.seq ?_
        refine AW.reg hS [(2, .pv (.bool false))] [] ?_ ?_
        · simp -implicitDefEqProofs only [RUNS, qindex, Nat.reduceAdd, Nat.reduceLeDiff, Nat.reduceSub, reduceIte, Nat.reduceEqDiff, Nat.reduceLT, reduceCtorEq, Nat.reduceMul, if_true, if_false, eq_self, ne_eq, env_bT, P30_eq, User.pv_eq]
        refine AW.ret ?_
        cases h
        show finish _ _ _ _ _ = _
        first | rfl | (simp [finish, resOf, renArgs, toPV, selObjs, sl])
      · replace h := bif_f hb12 h
        refine AW.skip ?_
        refine AW.reg hS [(0, .pv (.str name1)), (3, .pv (.int .i64 (IntKind.wrap .i64 (i4 + 1))))] [] ?_ ?_
        · simp -implicitDefEqProofs only [RUNS, qindex, Nat.reduceAdd, Nat.reduceLeDiff, Nat.reduceSub, reduceIte, Nat.reduceEqDiff, Nat.reduceLT, reduceCtorEq, Nat.reduceMul, if_true, if_false, eq_self, ne_eq, env_bT, T_3, P30_eq, User.pv_eq]
        exact ⟨(m7, IntKind.wrap .i64 (i4 + 1)), h, (Weak.norm (m := 0) (Nat.le_of_ble_eq_true rfl) ⟨rfl, rfl, trivial⟩ rfl rfl rfl), Nat.lt_succ_self _⟩
    · replace h := bif_f hb8 h
      refine AW.exit ?_
      refine AW.seq ?_
      refine AW.reg hS [(2, .pv (.bool true))] [] ?_ ?_
      · simp -implicitDefEqProofs only [RUNS, qindex, Nat.reduceAdd, Nat.reduceLeDiff, Nat.reduceSub, reduceIte, Nat.reduceEqDiff, Nat.reduceLT, reduceCtorEq, Nat.reduceMul, if_true, if_false, eq_self, ne_eq, env_bT, P30_eq, User.pv_eq]
      refine AW.ret ?_
      cases h
      show finish _ _ _ _ _ = _
      first | rfl | (simp [finish, resOf, renArgs, toPV, selObjs, sl])

set_option maxHeartbeats 4000000 in
theorem g_F3 {O : Orc} (hS : Sound env O) (hpf : O.pf = pfn) (c_F10 : C_F10 O) (c_F11 : C_F11 O) (c_F12 : C_F12 O) (name1 : Str) (r2 : Bool) (h : F3 name1 = some r2) : Good env 3 [.pv (.str name1)] [] [.pv (.bool r2)] [] := by
  have pf_10 : O.pf 10 = true := by rw [hpf]; rfl
  have pf_11 : O.pf 11 = true := by rw [hpf]; rfl
  have pf_12 : O.pf 12 = true := by rw [hpf]; rfl
  refine Good.start (fn := Tryd.f3) (N := 15) rfl rfl rfl (by simp) [] _ rfl rfl ?_
  rw [F3] at h
  refine AW.seq ?_
  refine AW.reg hS [(0, .pv (.str name1))] [] ?_ ?_
  · simp -implicitDefEqProofs only [RUNS, qindex, Nat.reduceAdd, Nat.reduceLeDiff, Nat.reduceSub, reduceIte, Nat.reduceEqDiff, Nat.reduceLT, reduceCtorEq, Nat.reduceMul, if_true, if_false, eq_self, ne_eq, env_bT, P30_eq, User.pv_eq]
  refine AW.seq ?_
  refine AW.seq ?_
  refine AW.reg hS [(0, .pv (.str name1)), (5, .pv (.bool (decide (2000 < (name1.length : Int)))))] [] ?_ ?_
  · simp -implicitDefEqProofs only [RUNS, qindex, Nat.reduceAdd, Nat.reduceLeDiff, Nat.reduceSub, reduceIte, Nat.reduceEqDiff, Nat.reduceLT, reduceCtorEq, Nat.reduceMul, if_true, if_false, eq_self, ne_eq, env_bT, T_3, T_9, P30_eq, User.pv_eq]
  refine AW.cond (b := decide (2000 < (name1.length : Int))) rfl (fun hb3 => ?_) (fun hb3 => ?_)
  · replace h := bif_t hb3 h
    refine AW.seq ?_
    replace h := Option.bind_eq_some_iff.1 h; obtain ⟨r4, q5, h⟩ := h
    have f6 := c_F10 r4 q5
    try dsimp only at f6
    refine AW.reg hS [(2, .pv (.bool r4))] [] ?_ ?_
    · simp -implicitDefEqProofs only [RUNS, qindex, Nat.reduceAdd, Nat.reduceLeDiff, Nat.reduceSub, reduceIte, Nat.reduceEqDiff, Nat.reduceLT, reduceCtorEq, Nat.reduceMul, if_true, if_false, eq_self, ne_eq, env_bT, P30_eq, User.pv_eq, pf_10, f6]
    refine AW.ret ?_
    cases h
    show finish _ _ _ _ _ = _
    first | rfl | (simp [finish, resOf, renArgs, toPV, selObjs, sl])
  · replace h := bif_f hb3 h
    refine AW.skip ?_
    refine AW.seq ?_
    replace h := Option.bind_eq_some_iff.1 h; obtain ⟨r7, q8, h⟩ := h
    have f9 := c_F11 name1 r7 q8
    try dsimp only at f9
    replace h := Option.bind_eq_some_iff.1 h; obtain ⟨r10, q11, h⟩ := h
    have f12 := c_F12 name1 r10 q11
    try dsimp only at f12
    replace h := Option.bind_eq_some_iff.1 h; obtain ⟨r13, q14, h⟩ := h
    have f15 := fun hg => c_F10 r13 (guardO_t q14 hg)
    try dsimp only at f15
    refine AW.reg hS [(2, .pv (.bool ((r7 == r10) && r13)))] [] ?_ ?_
    · clear h
      (simp -implicitDefEqProofs only [RUNS, qindex, Nat.reduceAdd, Nat.reduceLeDiff, Nat.reduceSub, reduceIte, Nat.reduceEqDiff, Nat.reduceLT, reduceCtorEq, Nat.reduceMul, if_true, if_false, eq_self, ne_eq, env_bT, T_4, T_9, P30_eq, User.pv_eq, pf_11, f9, pf_12, f12, isBoolT_4, pf_10, f15]); repeat' (split <;> rename_i hb <;> (try simp only [HBS, ge_iff_le, gt_iff_lt] at hb) <;> simp -implicitDefEqProofs only [RUNS, qindex, Nat.reduceAdd, Nat.reduceLeDiff, Nat.reduceSub, reduceIte, Nat.reduceEqDiff, Nat.reduceLT, reduceCtorEq, Nat.reduceMul, if_true, if_false, eq_self, ne_eq, env_bT, T_4, T_9, P30_eq, User.pv_eq, pf_11, f9, pf_12, f12, isBoolT_4, pf_10, f15, *, decide_true, decide_false, Decidable.not_not, not_false_eq_true, not_true_eq_false])
      all_goals (first | (simp only [BOOLS]; done) | (simp [*]; done) | ((try simp only [CLOS, beq_iff_eq, bne_iff_ne, ne_eq] at *) <;> omega) | (simp_all; done) | (simp_all <;> omega))
    refine AW.ret ?_
    cases h
    show finish _ _ _ _ _ = _
    first | rfl | (simp [finish, resOf, renArgs, toPV, selObjs, sl])

set_option maxHeartbeats 4000000 in
theorem g_F13 {O : Orc} (hS : Sound env O) (hpf : O.pf = pfn) (l1 : List User) (r2 : Bool) (h : F13 l1 = some r2) : Good env 13 [.pv (.slice (List.map User.pv l1))] [] [.pv (.bool r2)] [] := by
  refine Good.start (fn := Tryd.f13) (N := 59) rfl rfl rfl (by simp) [] _ rfl rfl ?_
  rw [F13] at h
  refine AW.seq ?_
  refine AW.reg hS [(0, .pv (.slice (List.map User.pv l1)))] [] ?_ ?_
  · simp -implicitDefEqProofs only [RUNS, qindex, Nat.reduceAdd, Nat.reduceLeDiff, Nat.reduceSub, reduceIte, Nat.reduceEqDiff, Nat.reduceLT, reduceCtorEq, Nat.reduceMul, if_true, if_false, eq_self, ne_eq, env_bT, P30_eq, User.pv_eq]
  refine AW.seq ?_
  refine AW.seq ?_
  refine AW.reg hS [(0, .pv (.slice (List.map User.pv l1))), (7, .pv (.bool (decide (70 < (l1.length : Int)))))] [] ?_ ?_
  · simp -implicitDefEqProofs only [RUNS, qindex, Nat.reduceAdd, Nat.reduceLeDiff, Nat.reduceSub, reduceIte, Nat.reduceEqDiff, Nat.reduceLT, reduceCtorEq, Nat.reduceMul, if_true, if_false, eq_self, ne_eq, env_bT, T_3, T_24, T_32, P30_eq, User.pv_eq]
  refine AW.cond (b := decide (70 < (l1.length : Int))) rfl (fun hb3 => ?_) (fun hb3 => ?_)
  · replace h := bif_t hb3 h
    refine AW.seq ?_
    refine AW.reg hS [(2, .pv (.bool false))] [] ?_ ?_
    · simp -implicitDefEqProofs only [RUNS, qindex, Nat.reduceAdd, Nat.reduceLeDiff, Nat.reduceSub, reduceIte, Nat.reduceEqDiff, Nat.reduceLT, reduceCtorEq, Nat.reduceMul, if_true, if_false, eq_self, ne_eq, env_bT, P30_eq, User.pv_eq]
    refine AW.ret ?_
    cases h
    show finish _ _ _ _ _ = _
    first | rfl | (simp [finish, resOf, renArgs, toPV, selObjs, sl])
  · replace h := bif_f hb3 h
    refine AW.skip ?_
    refine AW.seq ?_
    refine AW.seq ?_
    refine AW.reg hS [(0, .pv (.slice (List.map User.pv l1))), (9, .pv (.int .i64 (l1.length : Int))), (10, .pv (.int .i64 0))] [] ?_ ?_
    · simp -implicitDefEqProofs only [RUNS, qindex, Nat.reduceAdd, Nat.reduceLeDiff, Nat.reduceSub, reduceIte, Nat.reduceEqDiff, Nat.reduceLT, reduceCtorEq, Nat.reduceMul, if_true, if_false, eq_self, ne_eq, env_bT, T_24, T_32, P30_eq, User.pv_eq]
    refine AW.block ?_
    refine AW.weak (Weak.slots (L := [(0, .pv (.slice (List.map User.pv l1))), (9, .pv (.int .i64 (l1.length : Int))), (10, .pv (.int .i64 0))]) ⟨rfl, rfl, rfl, trivial⟩) ?_
    refine AW.loopI (α := Nat × Int) (fun (_, i4) => ⟨sl [(0, .pv (.slice (List.map User.pv l1))), (9, .pv (.int .i64 (l1.length : Int))), (10, .pv (.int .i64 i4))], 59, []⟩) (fun x => iter (F13_b2 l1) x.1 x.2 = some r2) (fun x => x.1) (BIG, 0) h ?_
    clear h
    intro ⟨n23, i4⟩ h
    replace h := iter_some h; obtain ⟨m7, rfl, h⟩ := h
    rw [F13_b2] at h
    try dsimp only at h
    show AW _ _ _ _ ⟨sl [(0, .pv (.slice (List.map User.pv l1))), (9, .pv (.int .i64 (l1.length : Int))), (10, .pv (.int .i64 i4))], 59, []⟩
    refine AW.seq ?_
    refine AW.reg hS [(0, .pv (.slice (List.map User.pv l1))), (9, .pv (.int .i64 (l1.length : Int))), (10, .pv (.int .i64 i4)), (11, .pv (.bool (decide (i4 < (l1.length : Int)))))] [] ?_ ?_
    · simp -implicitDefEqProofs only [RUNS, qindex, Nat.reduceAdd, Nat.reduceLeDiff, Nat.reduceSub, reduceIte, Nat.reduceEqDiff, Nat.reduceLT, reduceCtorEq, Nat.reduceMul, if_true, if_false, eq_self, ne_eq, env_bT, T_3, P30_eq, User.pv_eq]
    refine AW.seq ?_
    refine AW.cond (b := decide (i4 < (l1.length : Int))) rfl (fun hb8 => ?_) (fun hb8 => ?_)
    · replace h := bif_t hb8 h
      refine AW.skip ?_
      refine AW.seq ?_
      refine AW.block ?_
      refine AW.seq ?_
      refine AW.reg hS [(0, .pv (.slice (List.map User.pv l1))), (3, .pv (.int .i64 i4)), (9, .pv (.int .i64 (l1.length : Int))), (10, .pv (.int .i64 i4))] [] ?_ ?_
      · simp -implicitDefEqProofs only [RUNS, qindex, Nat.reduceAdd, Nat.reduceLeDiff, Nat.reduceSub, reduceIte, Nat.reduceEqDiff, Nat.reduceLT, reduceCtorEq, Nat.reduceMul, if_true, if_false, eq_self, ne_eq, env_bT, P30_eq, User.pv_eq]
      refine AW.seq ?_
      refine AW.seq ?_
      replace h := Option.bind_eq_some_iff.1 h; obtain ⟨u9, q10, h⟩ := h
      have f11 := lidx_f q10
      refine AW.reg hS [(0, .pv (.slice (List.map User.pv l1))), (3, .pv (.int .i64 i4)), (9, .pv (.int .i64 (l1.length : Int))), (10, .pv (.int .i64 i4)), (37, .pv (.bool ((decide (30 < (u9.members_.length : Int)) || decide (200 < (u9.name_.length : Int))) || decide (200 < (u9.leader_.length : Int)))))] [] ?_ ?_
      · clear h
        (simp -implicitDefEqProofs only [RUNS, qindex, Nat.reduceAdd, Nat.reduceLeDiff, Nat.reduceSub, reduceIte, Nat.reduceEqDiff, Nat.reduceLT, reduceCtorEq, Nat.reduceMul, if_true, if_false, eq_self, ne_eq, env_bT, T_3, T_9, T_24, T_30, T_32, P30_eq, User.pv_eq, f11.1, f11.2.1]); repeat' (split <;> rename_i hb <;> (try simp only [HBS, ge_iff_le, gt_iff_lt] at hb) <;> simp -implicitDefEqProofs only [RUNS, qindex, Nat.reduceAdd, Nat.reduceLeDiff, Nat.reduceSub, reduceIte, Nat.reduceEqDiff, Nat.reduceLT, reduceCtorEq, Nat.reduceMul, if_true, if_false, eq_self, ne_eq, env_bT, T_3, T_9, T_24, T_30, T_32, P30_eq, User.pv_eq, f11.1, f11.2.1, *, decide_true, decide_false, Decidable.not_not, not_false_eq_true, not_true_eq_false])
        all_goals (first | (simp only [BOOLS]; done) | (simp [*]; done) | ((try simp only [CLOS, beq_iff_eq, bne_iff_ne, ne_eq] at *) <;> omega) | (simp_all; done) | (simp_all <;> omega))
      refine AW.cond (b := ((decide (30 < (u9.members_.length : Int)) || decide (200 < (u9.name_.length : Int))) || decide (200 < (u9.leader_.length : Int)))) rfl (fun hb12 => ?_) (fun hb12 => ?_)
      · replace h := bif_t hb12 h
        refine AW.seq ?_
        refine AW.reg hS [(2, .pv (.bool false))] [] ?_ ?_
        · simp -implicitDefEqProofs only [RUNS, qindex, Nat.reduceAdd, Nat.reduceLeDiff, Nat.reduceSub, reduceIte, Nat.reduceEqDiff, Nat.reduceLT, reduceCtorEq, Nat.reduceMul, if_true, if_false, eq_self, ne_eq, env_bT, P30_eq, User.pv_eq]
        refine AW.ret ?_
        cases h
        show finish _ _ _ _ _ = _
        first | rfl | (simp [finish, resOf, renArgs, toPV, selObjs, sl])
      · replace h := bif_f hb12 h
        refine AW.skip ?_
        refine AW.seq ?_
        refine AW.reg hS [(0, .pv (.slice (List.map User.pv l1))), (3, .pv (.int .i64 i4)), (9, .pv (.int .i64 (l1.length : Int))), (10, .pv (.int .i64 i4)), (43, .pv (.int .i64 (u9.members_.length : Int))), (44, .pv (.int .i64 0))] [] ?_ ?_
        · simp -implicitDefEqProofs only [RUNS, qindex, Nat.reduceAdd, Nat.reduceLeDiff, Nat.reduceSub, reduceIte, Nat.reduceEqDiff, Nat.reduceLT, reduceCtorEq, Nat.reduceMul, if_true, if_false, eq_self, ne_eq, env_bT, T_9, T_24, T_30, T_32, P30_eq, User.pv_eq, f11.1, f11.2.1]
        refine AW.block ?_
        refine AW.weak (Weak.slots (L := [(0, .pv (.slice (List.map User.pv l1))), (3, .pv (.int .i64 i4)), (9, .pv (.int .i64 (l1.length : Int))), (10, .pv (.int .i64 i4)), (43, .pv (.int .i64 (u9.members_.length : Int))), (44, .pv (.int .i64 0))]) ⟨rfl, rfl, rfl, rfl, rfl, rfl, trivial⟩) ?_
        refine AW.loopI (α := Nat × Int) (fun (_, i13) => ⟨sl [(0, .pv (.slice (List.map User.pv l1))), (3, .pv (.int .i64 i4)), (9, .pv (.int .i64 (l1.length : Int))), (10, .pv (.int .i64 i4)), (43, .pv (.int .i64 (u9.members_.length : Int))), (44, .pv (.int .i64 i13))], 59, []⟩) (fun x => iter (F13_b3 u9 (iter (F13_b2 l1) m7) i4) x.1 x.2 = some r2) (fun x => x.1) (BIG, 0) h ?_
        clear h
        intro ⟨n22, i13⟩ h
        replace h := iter_some h; obtain ⟨m16, rfl, h⟩ := h
        rw [F13_b3] at h
        try dsimp only at h
        show AW _ _ _ _ ⟨sl [(0, .pv (.slice (List.map User.pv l1))), (3, .pv (.int .i64 i4)), (9, .pv (.int .i64 (l1.length : Int))), (10, .pv (.int .i64 i4)), (43, .pv (.int .i64 (u9.members_.length : Int))), (44, .pv (.int .i64 i13))], 59, []⟩
        refine AW.seq ?_
        refine AW.reg hS [(0, .pv (.slice (List.map User.pv l1))), (3, .pv (.int .i64 i4)), (9, .pv (.int .i64 (l1.length : Int))), (10, .pv (.int .i64 i4)), (43, .pv (.int .i64 (u9.members_.length : Int))), (44, .pv (.int .i64 i13)), (45, .pv (.bool (decide (i13 < (u9.members_.length : Int)))))] [] ?_ ?_
        · simp -implicitDefEqProofs only [RUNS, qindex, Nat.reduceAdd, Nat.reduceLeDiff, Nat.reduceSub, reduceIte, Nat.reduceEqDiff, Nat.reduceLT, reduceCtorEq, Nat.reduceMul, if_true, if_false, eq_self, ne_eq, env_bT, T_3, P30_eq, User.pv_eq]
        refine AW.seq ?_
        refine AW.cond (b := decide (i13 < (u9.members_.length : Int))) rfl (fun hb17 => ?_) (fun hb17 => ?_)
        · replace h := bif_t hb17 h
          refine AW.skip ?_
          refine AW.seq ?_
          refine AW.block ?_
          refine AW.seq ?_
          refine AW.reg hS [(0, .pv (.slice (List.map User.pv l1))), (3, .pv (.int .i64 i4)), (4, .pv (.int .i64 i13)), (9, .pv (.int .i64 (l1.length : Int))), (10, .pv (.int .i64 i4)), (43, .pv (.int .i64 (u9.members_.length : Int))), (44, .pv (.int .i64 i13))] [] ?_ ?_
          · simp -implicitDefEqProofs only [RUNS, qindex, Nat.reduceAdd, Nat.reduceLeDiff, Nat.reduceSub, reduceIte, Nat.reduceEqDiff, Nat.reduceLT, reduceCtorEq, Nat.reduceMul, if_true, if_false, eq_self, ne_eq, env_bT, P30_eq, User.pv_eq]
          refine AW.seq ?_
          replace h := Option.bind_eq_some_iff.1 h; obtain ⟨w18, q19, h⟩ := h
          have f20 := lidx_f q19
          refine AW.reg hS [(0, .pv (.slice (List.map User.pv l1))), (3, .pv (.int .i64 i4)), (9, .pv (.int .i64 (l1.length : Int))), (10, .pv (.int .i64 i4)), (43, .pv (.int .i64 (u9.members_.length : Int))), (44, .pv (.int .i64 i13)), (56, .pv (.bool (decide (200 < (w18.length : Int)))))] [] ?_ ?_
          · simp -implicitDefEqProofs only [RUNS, qindex, Nat.reduceAdd, Nat.reduceLeDiff, Nat.reduceSub, reduceIte, Nat.reduceEqDiff, Nat.reduceLT, reduceCtorEq, Nat.reduceMul, if_true, if_false, eq_self, ne_eq, env_bT, T_3, T_9, T_24, T_30, T_32, P30_eq, User.pv_eq, f11.1, f11.2.1, f20.1, f20.2.1]
          refine AW.cond (b := decide (200 < (w18.length : Int))) rfl (fun hb21 => ?_) (fun hb21 => ?_)
          · replace h := bif_t hb21 h
            refine AW.seq ?_
            refine AW.reg hS [(2, .pv (.bool false))] [] ?_ ?_
            · simp -implicitDefEqProofs only [RUNS, qindex, Nat.reduceAdd, Nat.reduceLeDiff, Nat.reduceSub, reduceIte, Nat.reduceEqDiff, Nat.reduceLT, reduceCtorEq, Nat.reduceMul, if_true, if_false, eq_self, ne_eq, env_bT, P30_eq, User.pv_eq]
            refine AW.ret ?_
            cases h
            show finish _ _ _ _ _ = _
            first | rfl | (simp [finish, resOf, renArgs, toPV, selObjs, sl])
          · replace h := bif_f hb21 h
            refine AW.skip ?_
            refine AW.reg hS [(0, .pv (.slice (List.map User.pv l1))), (3, .pv (.int .i64 i4)), (9, .pv (.int .i64 (l1.length : Int))), (10, .pv (.int .i64 i4)), (43, .pv (.int .i64 (u9.members_.length : Int))), (44, .pv (.int .i64 (IntKind.wrap .i64 (i13 + 1))))] [] ?_ ?_
            · simp -implicitDefEqProofs only [RUNS, qindex, Nat.reduceAdd, Nat.reduceLeDiff, Nat.reduceSub, reduceIte, Nat.reduceEqDiff, Nat.reduceLT, reduceCtorEq, Nat.reduceMul, if_true, if_false, eq_self, ne_eq, env_bT, T_3, P30_eq, User.pv_eq]
            exact ⟨(m16, IntKind.wrap .i64 (i13 + 1)), h, (Weak.norm (m := 0) (Nat.le_of_ble_eq_true rfl) ⟨rfl, rfl, rfl, rfl, rfl, rfl, trivial⟩ rfl rfl rfl), Nat.lt_succ_self _⟩
        · replace h := bif_f hb17 h
          refine AW.exit ?_
          refine AW.reg hS [(0, .pv (.slice (List.map User.pv l1))), (9, .pv (.int .i64 (l1.length : Int))), (10, .pv (.int .i64 (IntKind.wrap .i64 (i4 + 1))))] [] ?_ ?_
          · simp -implicitDefEqProofs only [RUNS, qindex, Nat.reduceAdd, Nat.reduceLeDiff, Nat.reduceSub, reduceIte, Nat.reduceEqDiff, Nat.reduceLT, reduceCtorEq, Nat.reduceMul, if_true, if_false, eq_self, ne_eq, env_bT, T_3, P30_eq, User.pv_eq]
          exact ⟨(m7, IntKind.wrap .i64 (i4 + 1)), h, (Weak.norm (m := 0) (Nat.le_of_ble_eq_true rfl) ⟨rfl, rfl, rfl, trivial⟩ rfl rfl rfl), Nat.lt_succ_self _⟩
    · replace h := bif_f hb8 h
      refine AW.exit ?_
      refine AW.seq ?_
      refine AW.reg hS [(2, .pv (.bool true))] [] ?_ ?_
      · simp -implicitDefEqProofs only [RUNS, qindex, Nat.reduceAdd, Nat.reduceLeDiff, Nat.reduceSub, reduceIte, Nat.reduceEqDiff, Nat.reduceLT, reduceCtorEq, Nat.reduceMul, if_true, if_false, eq_self, ne_eq, env_bT, P30_eq, User.pv_eq]
      refine AW.ret ?_
      cases h
      show finish _ _ _ _ _ = _
      first | rfl | (simp [finish, resOf, renArgs, toPV, selObjs, sl])

end Go.Abs.U05
