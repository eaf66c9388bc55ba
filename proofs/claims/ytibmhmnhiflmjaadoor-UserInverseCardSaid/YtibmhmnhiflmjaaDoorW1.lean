/- The layer 5 laws: the functions walked. -/
import Derived.Test.YtibmhmnhiflmjaaDoorD1
set_option linter.unusedSimpArgs false
namespace Go.Abs.U05
open Go.RowKit Go.Proofs

set_option maxHeartbeats 4000000 in
theorem g_F28 {O : Orc} (hS : Sound env O) (hpf : O.pf = pfn)  (r1 : List User) (h : F28 = some r1) : Good env 28 [] [] [.pv (.slice (List.map User.pv r1))] [] := by
  refine Good.start (fn := Tryd.f28) (N := 6) rfl rfl rfl (by simp) [] _ rfl rfl ?_
  rw [F28] at h
  refine AW.seq ?_
  refine AW.reg hS [] [] ?_ ?_
  · simp -implicitDefEqProofs only [RUNS, qindex, Nat.reduceAdd, Nat.reduceLeDiff, Nat.reduceSub, reduceIte, Nat.reduceEqDiff, Nat.reduceLT, reduceCtorEq, Nat.reduceMul, if_true, if_false, eq_self, ne_eq, env_bT, P30_eq, User.pv_eq]
  refine AW.seq ?_
  refine AW.reg hS [(0, .full (List.map User.pv [User.mk [97, 100, 109] [97, 110, 110] [[97, 110, 110], [98, 111, 98]], User.mk [97, 110, 110] [] [], User.mk [98, 111, 98] [] []]))] [] ?_ ?_
  · simp -implicitDefEqProofs only [RUNS, qindex, Nat.reduceAdd, Nat.reduceLeDiff, Nat.reduceSub, reduceIte, Nat.reduceEqDiff, Nat.reduceLT, reduceCtorEq, Nat.reduceMul, if_true, if_false, eq_self, ne_eq, env_bT, T_9, T_24, T_30, T_32, P30_eq, User.pv_eq]
  refine AW.ret ?_
  cases h
  show finish _ _ _ _ _ = _
  first | rfl | (simp [finish, resOf, renArgs, toPV, selObjs, sl])

set_option maxHeartbeats 4000000 in
theorem g_F11 {O : Orc} (hS : Sound env O) (hpf : O.pf = pfn) (name1 : Str) (r2 : Bool) (h : F11 name1 = some r2) : Good env 11 [.pv (.str name1)] [] [.pv (.bool r2)] [] := by
  refine Good.start (fn := Tryd.f11) (N := 53) rfl rfl rfl (by simp) [] _ rfl rfl ?_
  rw [F11] at h
  refine AW.seq ?_
  refine AW.reg hS [(0, .pv (.str name1))] [] ?_ ?_
  · simp -implicitDefEqProofs only [RUNS, qindex, Nat.reduceAdd, Nat.reduceLeDiff, Nat.reduceSub, reduceIte, Nat.reduceEqDiff, Nat.reduceLT, reduceCtorEq, Nat.reduceMul, if_true, if_false, eq_self, ne_eq, env_bT, P30_eq, User.pv_eq]
  refine AW.seq ?_
  refine AW.seq ?_
  refine AW.reg hS [(0, .pv (.str name1)), (13, .pv (.bool (decide (name1 = []) || decide (32 < (name1.length : Int)))))] [] ?_ ?_
  · clear h
    (simp -implicitDefEqProofs only [RUNS, qindex, Nat.reduceAdd, Nat.reduceLeDiff, Nat.reduceSub, reduceIte, Nat.reduceEqDiff, Nat.reduceLT, reduceCtorEq, Nat.reduceMul, if_true, if_false, eq_self, ne_eq, env_bT, T_3, T_9, P30_eq, User.pv_eq]); repeat' (split <;> rename_i hb <;> (try simp only [HBS, ge_iff_le, gt_iff_lt] at hb) <;> simp -implicitDefEqProofs only [RUNS, qindex, Nat.reduceAdd, Nat.reduceLeDiff, Nat.reduceSub, reduceIte, Nat.reduceEqDiff, Nat.reduceLT, reduceCtorEq, Nat.reduceMul, if_true, if_false, eq_self, ne_eq, env_bT, T_3, T_9, P30_eq, User.pv_eq, *, decide_true, decide_false, Decidable.not_not, not_false_eq_true, not_true_eq_false])
    all_goals (first | (simp only [BOOLS]; done) | (simp [*]; done) | ((try simp only [CLOS, beq_iff_eq, bne_iff_ne, ne_eq] at *) <;> omega) | (simp_all; done) | (simp_all <;> omega))
  refine AW.cond (b := (decide (name1 = []) || decide (32 < (name1.length : Int)))) rfl (fun hb3 => ?_) (fun hb3 => ?_)
  · replace h := bif_t hb3 h
    refine AW.seq ?_
    refine AW.reg hS [(2, .pv (.bool false))] [] ?_ ?_
    · simp -implicitDefEqProofs only [RUNS, qindex, Nat.reduceAdd, Nat.reduceLeDiff, Nat.reduceSub, reduceIte, Nat.reduceEqDiff, Nat.reduceLT, reduceCtorEq, Nat.reduceMul, if_true, if_false, eq_self, ne_eq, env_bT, P30_eq, User.pv_eq]
    refine AW.ret ?_
    cases h
    show finish _ _ _ _ _ = _
    first | rfl | (simp [finish, resOf, renArgs, toPV, selObjs, sl])
  · replace h := bif_f hb3 h
    refine AW.skip ?_
    refine AW.seq ?_
    refine AW.seq ?_
    refine AW.reg hS [(0, .pv (.str name1)), (15, .pv (.int .i64 (name1.length : Int))), (16, .pv (.int .i64 0))] [] ?_ ?_
    · simp -implicitDefEqProofs only [RUNS, qindex, Nat.reduceAdd, Nat.reduceLeDiff, Nat.reduceSub, reduceIte, Nat.reduceEqDiff, Nat.reduceLT, reduceCtorEq, Nat.reduceMul, if_true, if_false, eq_self, ne_eq, env_bT, T_9, P30_eq, User.pv_eq]
    refine AW.block ?_
    refine AW.weak (Weak.slots (L := [(0, .pv (.str name1)), (15, .pv (.int .i64 (name1.length : Int))), (16, .pv (.int .i64 0))]) ⟨rfl, rfl, rfl, trivial⟩) ?_
    refine AW.loopI (α := Nat × Int) (fun (_, i4) => ⟨sl [(0, .pv (.str name1)), (15, .pv (.int .i64 (name1.length : Int))), (16, .pv (.int .i64 i4))], 53, []⟩) (fun x => iter (F11_b1 name1) x.1 x.2 = some r2) (fun x => x.1) (BIG, 0) h ?_
    clear h
    intro ⟨n13, i4⟩ h
    replace h := iter_some h; obtain ⟨m7, rfl, h⟩ := h
    rw [F11_b1] at h
    try dsimp only at h
    show AW _ _ _ _ ⟨sl [(0, .pv (.str name1)), (15, .pv (.int .i64 (name1.length : Int))), (16, .pv (.int .i64 i4))], 53, []⟩
    refine AW.seq ?_
    refine AW.reg hS [(0, .pv (.str name1)), (15, .pv (.int .i64 (name1.length : Int))), (16, .pv (.int .i64 i4)), (17, .pv (.bool (decide (i4 < (name1.length : Int)))))] [] ?_ ?_
    · simp -implicitDefEqProofs only [RUNS, qindex, Nat.reduceAdd, Nat.reduceLeDiff, Nat.reduceSub, reduceIte, Nat.reduceEqDiff, Nat.reduceLT, reduceCtorEq, Nat.reduceMul, if_true, if_false, eq_self, ne_eq, env_bT, T_3, P30_eq, User.pv_eq]
    refine AW.seq ?_
    refine AW.cond (b := decide (i4 < (name1.length : Int))) rfl (fun hb8 => ?_) (fun hb8 => ?_)
    · replace h := bif_t hb8 h
      refine AW.skip ?_
      refine AW.seq ?_
      refine AW.block ?_
      refine AW.seq ?_
      refine AW.reg hS [(0, .pv (.str name1)), (3, .pv (.int .i64 i4)), (15, .pv (.int .i64 (name1.length : Int))), (16, .pv (.int .i64 i4))] [] ?_ ?_
      · simp -implicitDefEqProofs only [RUNS, qindex, Nat.reduceAdd, Nat.reduceLeDiff, Nat.reduceSub, reduceIte, Nat.reduceEqDiff, Nat.reduceLT, reduceCtorEq, Nat.reduceMul, if_true, if_false, eq_self, ne_eq, env_bT, P30_eq, User.pv_eq]
      refine AW.seq ?_
      replace h := Option.bind_eq_some_iff.1 h; obtain ⟨c9, q10, h⟩ := h
      have f11 := sidx_f q10
      refine AW.reg hS [(0, .pv (.str name1)), (3, .pv (.int .i64 i4)), (4, .pv (.int .u8 c9)), (15, .pv (.int .i64 (name1.length : Int))), (16, .pv (.int .i64 i4))] [] ?_ ?_
      · simp -implicitDefEqProofs only [RUNS, qindex, Nat.reduceAdd, Nat.reduceLeDiff, Nat.reduceSub, reduceIte, Nat.reduceEqDiff, Nat.reduceLT, reduceCtorEq, Nat.reduceMul, if_true, if_false, eq_self, ne_eq, env_bT, T_9, P30_eq, User.pv_eq, f11.1, f11.2.1, f11.2.2]
      refine AW.seq ?_
      refine AW.reg hS [(0, .pv (.str name1)), (3, .pv (.int .i64 i4)), (4, .pv (.int .u8 c9)), (5, .pv (.bool (decide (97 ≤ c9) && decide (c9 ≤ 122)))), (15, .pv (.int .i64 (name1.length : Int))), (16, .pv (.int .i64 i4))] [] ?_ ?_
      · clear h
        (simp -implicitDefEqProofs only [RUNS, qindex, Nat.reduceAdd, Nat.reduceLeDiff, Nat.reduceSub, reduceIte, Nat.reduceEqDiff, Nat.reduceLT, reduceCtorEq, Nat.reduceMul, if_true, if_false, eq_self, ne_eq, env_bT, T_5, P30_eq, User.pv_eq]); repeat' (split <;> rename_i hb <;> (try simp only [HBS, ge_iff_le, gt_iff_lt] at hb) <;> simp -implicitDefEqProofs only [RUNS, qindex, Nat.reduceAdd, Nat.reduceLeDiff, Nat.reduceSub, reduceIte, Nat.reduceEqDiff, Nat.reduceLT, reduceCtorEq, Nat.reduceMul, if_true, if_false, eq_self, ne_eq, env_bT, T_5, P30_eq, User.pv_eq, *, decide_true, decide_false, Decidable.not_not, not_false_eq_true, not_true_eq_false])
        all_goals (first | (simp only [BOOLS]; done) | (simp [*]; done) | ((try simp only [CLOS, beq_iff_eq, bne_iff_ne, ne_eq] at *) <;> omega) | (simp_all; done) | (simp_all <;> omega))
      refine AW.seq ?_
      refine AW.reg hS [(0, .pv (.str name1)), (3, .pv (.int .i64 i4)), (5, .pv (.bool (decide (97 ≤ c9) && decide (c9 ≤ 122)))), (6, .pv (.bool (((decide (48 ≤ c9) && decide (c9 ≤ 57)) || decide (c9 = 45)) || decide (c9 = 95)))), (15, .pv (.int .i64 (name1.length : Int))), (16, .pv (.int .i64 i4))] [] ?_ ?_
      · clear h
        (simp -implicitDefEqProofs only [RUNS, qindex, Nat.reduceAdd, Nat.reduceLeDiff, Nat.reduceSub, reduceIte, Nat.reduceEqDiff, Nat.reduceLT, reduceCtorEq, Nat.reduceMul, if_true, if_false, eq_self, ne_eq, env_bT, T_5, P30_eq, User.pv_eq]); repeat' (split <;> rename_i hb <;> (try simp only [HBS, ge_iff_le, gt_iff_lt] at hb) <;> simp -implicitDefEqProofs only [RUNS, qindex, Nat.reduceAdd, Nat.reduceLeDiff, Nat.reduceSub, reduceIte, Nat.reduceEqDiff, Nat.reduceLT, reduceCtorEq, Nat.reduceMul, if_true, if_false, eq_self, ne_eq, env_bT, T_5, P30_eq, User.pv_eq, *, decide_true, decide_false, Decidable.not_not, not_false_eq_true, not_true_eq_false])
        all_goals (first | (simp only [BOOLS]; done) | (simp [*]; done) | ((try simp only [CLOS, beq_iff_eq, bne_iff_ne, ne_eq] at *) <;> omega) | (simp_all; done) | (simp_all <;> omega))
      refine AW.seq ?_
      refine AW.reg hS [(0, .pv (.str name1)), (15, .pv (.int .i64 (name1.length : Int))), (16, .pv (.int .i64 i4)), (51, .pv (.bool (!(decide (97 ≤ c9) && decide (c9 ≤ 122)) && (decide (i4 = 0) || !(((decide (48 ≤ c9) && decide (c9 ≤ 57)) || decide (c9 = 45)) || decide (c9 = 95))))))] [] ?_ ?_
      · clear h
        (simp -implicitDefEqProofs only [RUNS, qindex, Nat.reduceAdd, Nat.reduceLeDiff, Nat.reduceSub, reduceIte, Nat.reduceEqDiff, Nat.reduceLT, reduceCtorEq, Nat.reduceMul, if_true, if_false, eq_self, ne_eq, env_bT, T_3, P30_eq, User.pv_eq]); repeat' (split <;> rename_i hb <;> (try simp only [HBS, ge_iff_le, gt_iff_lt] at hb) <;> simp -implicitDefEqProofs only [RUNS, qindex, Nat.reduceAdd, Nat.reduceLeDiff, Nat.reduceSub, reduceIte, Nat.reduceEqDiff, Nat.reduceLT, reduceCtorEq, Nat.reduceMul, if_true, if_false, eq_self, ne_eq, env_bT, T_3, P30_eq, User.pv_eq, *, decide_true, decide_false, Decidable.not_not, not_false_eq_true, not_true_eq_false])
        all_goals (first | (simp only [BOOLS]; done) | (simp [*]; done) | ((try simp only [CLOS, beq_iff_eq, bne_iff_ne, ne_eq] at *) <;> omega) | (simp_all; done) | (simp_all <;> omega))
      refine AW.cond (b := (!(decide (97 ≤ c9) && decide (c9 ≤ 122)) && (decide (i4 = 0) || !(((decide (48 ≤ c9) && decide (c9 ≤ 57)) || decide (c9 = 45)) || decide (c9 = 95))))) rfl (fun hb12 => ?_) (fun hb12 => ?_)
      · replace h := bif_t hb12 h
        refine AW.seq ?_
        refine AW.reg hS [(2, .pv (.bool false))] [] ?_ ?_
        · simp -implicitDefEqProofs only [RUNS, qindex, Nat.reduceAdd, Nat.reduceLeDiff, Nat.reduceSub, reduceIte, Nat.reduceEqDiff, Nat.reduceLT, reduceCtorEq, Nat.reduceMul, if_true, if_false, eq_self, ne_eq, env_bT, P30_eq, User.pv_eq]
        refine AW.ret ?_
        cases h
        show finish _ _ _ _ _ = _
        first | rfl | (simp [finish, resOf, renArgs, toPV, selObjs, sl])
      · replace h := bif_f hb12 h
        refine AW.skip ?_
        refine AW.reg hS [(0, .pv (.str name1)), (15, .pv (.int .i64 (name1.length : Int))), (16, .pv (.int .i64 (IntKind.wrap .i64 (i4 + 1))))] [] ?_ ?_
        · simp -implicitDefEqProofs only [RUNS, qindex, Nat.reduceAdd, Nat.reduceLeDiff, Nat.reduceSub, reduceIte, Nat.reduceEqDiff, Nat.reduceLT, reduceCtorEq, Nat.reduceMul, if_true, if_false, eq_self, ne_eq, env_bT, T_3, P30_eq, User.pv_eq]
        exact ⟨(m7, IntKind.wrap .i64 (i4 + 1)), h, (Weak.norm (m := 0) (Nat.le_of_ble_eq_true rfl) ⟨rfl, rfl, rfl, trivial⟩ rfl rfl rfl), Nat.lt_succ_self _⟩
    · replace h := bif_f hb8 h
      refine AW.exit ?_
      refine AW.seq ?_
      refine AW.reg hS [(2, .pv (.bool true))] [] ?_ ?_
      · simp -implicitDefEqProofs only [RUNS, qindex, Nat.reduceAdd, Nat.reduceLeDiff, Nat.reduceSub, reduceIte, Nat.reduceEqDiff, Nat.reduceLT, reduceCtorEq, Nat.reduceMul, if_true, if_false, eq_self, ne_eq, env_bT, P30_eq, User.pv_eq]
      refine AW.ret ?_
      cases h
      show finish _ _ _ _ _ = _
      first | rfl | (simp [finish, resOf, renArgs, toPV, selObjs, sl])

set_option maxHeartbeats 4000000 in
theorem g_F32 {O : Orc} (hS : Sound env O) (hpf : O.pf = pfn) (l1 : List Str) (m2 : List (Str × Int)) (r3 : Int) (h : F32 l1 m2 = some r3) : Good env 32 [.mref 0, .pv (.slice (List.map PV.str l1))] [.map (mp m2)] [.pv (.int .i64 r3)] [.map (mp m2)] := by
  refine Good.start (fn := Tryd.f32) (N := 30) rfl rfl rfl (by simp) [] _ rfl rfl ?_
  rw [F32] at h
  refine AW.seq ?_
  refine AW.reg hS [(0, .mref 0), (1, .pv (.slice (List.map PV.str l1)))] [.map (mp m2)] ?_ ?_
  · simp -implicitDefEqProofs only [RUNS, qindex, Nat.reduceAdd, Nat.reduceLeDiff, Nat.reduceSub, reduceIte, Nat.reduceEqDiff, Nat.reduceLT, reduceCtorEq, Nat.reduceMul, if_true, if_false, eq_self, ne_eq, env_bT, P30_eq, User.pv_eq]
  refine AW.seq ?_
  refine AW.seq ?_
  refine AW.reg hS [(0, .mref 0), (1, .pv (.slice (List.map PV.str l1))), (7, .pv (.slice (List.map PV.str l1))), (8, .pv (.int .i64 (l1.length : Int))), (9, .pv (.int .i64 0))] [.map (mp m2)] ?_ ?_
  · simp -implicitDefEqProofs only [RUNS, qindex, Nat.reduceAdd, Nat.reduceLeDiff, Nat.reduceSub, reduceIte, Nat.reduceEqDiff, Nat.reduceLT, reduceCtorEq, Nat.reduceMul, if_true, if_false, eq_self, ne_eq, env_bT, T_9, T_30, P30_eq, User.pv_eq]
  refine AW.block ?_
  refine AW.weak (Weak.slots (L := [(0, .mref 0), (1, .pv (.slice (List.map PV.str l1))), (7, .pv (.slice (List.map PV.str l1))), (8, .pv (.int .i64 (l1.length : Int))), (9, .pv (.int .i64 0))]) ⟨rfl, rfl, rfl, rfl, rfl, trivial⟩) ?_
  refine AW.loopI (α := Nat × Int) (fun (_, i4) => ⟨sl [(0, .mref 0), (1, .pv (.slice (List.map PV.str l1))), (7, .pv (.slice (List.map PV.str l1))), (8, .pv (.int .i64 (l1.length : Int))), (9, .pv (.int .i64 i4))], 30, [.map (mp m2)]⟩) (fun x => iter (F32_b1 l1 m2) x.1 x.2 = some r3) (fun x => x.1) (BIG, 0) h ?_
  clear h
  intro ⟨n18, i4⟩ h
  replace h := iter_some h; obtain ⟨m7, rfl, h⟩ := h
  rw [F32_b1] at h
  try dsimp only at h
  show AW _ _ _ _ ⟨sl [(0, .mref 0), (1, .pv (.slice (List.map PV.str l1))), (7, .pv (.slice (List.map PV.str l1))), (8, .pv (.int .i64 (l1.length : Int))), (9, .pv (.int .i64 i4))], 30, [.map (mp m2)]⟩
  refine AW.seq ?_
  refine AW.reg hS [(0, .mref 0), (1, .pv (.slice (List.map PV.str l1))), (7, .pv (.slice (List.map PV.str l1))), (8, .pv (.int .i64 (l1.length : Int))), (9, .pv (.int .i64 i4)), (10, .pv (.bool (decide (i4 < (l1.length : Int)))))] [.map (mp m2)] ?_ ?_
  · simp -implicitDefEqProofs only [RUNS, qindex, Nat.reduceAdd, Nat.reduceLeDiff, Nat.reduceSub, reduceIte, Nat.reduceEqDiff, Nat.reduceLT, reduceCtorEq, Nat.reduceMul, if_true, if_false, eq_self, ne_eq, env_bT, T_3, P30_eq, User.pv_eq]
  refine AW.seq ?_
  refine AW.cond (b := decide (i4 < (l1.length : Int))) rfl (fun hb8 => ?_) (fun hb8 => ?_)
  · replace h := bif_t hb8 h
    refine AW.skip ?_
    refine AW.seq ?_
    refine AW.block ?_
    refine AW.seq ?_
    replace h := Option.bind_eq_some_iff.1 h; obtain ⟨w9, q10, h⟩ := h
    have f11 := lidx_f q10
    refine AW.reg hS [(0, .mref 0), (1, .pv (.slice (List.map PV.str l1))), (5, .pv (.int .i64 i4)), (6, .pv (.str w9)), (7, .pv (.slice (List.map PV.str l1))), (8, .pv (.int .i64 (l1.length : Int))), (9, .pv (.int .i64 i4))] [.map (mp m2)] ?_ ?_
    · simp -implicitDefEqProofs only [RUNS, qindex, Nat.reduceAdd, Nat.reduceLeDiff, Nat.reduceSub, reduceIte, Nat.reduceEqDiff, Nat.reduceLT, reduceCtorEq, Nat.reduceMul, if_true, if_false, eq_self, ne_eq, env_bT, T_9, T_30, P30_eq, User.pv_eq, f11.1, f11.2.1]
    refine AW.seq ?_
    refine AW.seq ?_
    have f12 : qlookup env.T [.map (mp m2)] 52 (.mref 0) (.pv (.str w9)) false = _ := qlookup_mp (m := m2) T_52 T_9 T_3 rfl _
    refine AW.reg hS [(0, .mref 0), (1, .pv (.slice (List.map PV.str l1))), (5, .pv (.int .i64 i4)), (6, .pv (.str w9)), (7, .pv (.slice (List.map PV.str l1))), (8, .pv (.int .i64 (l1.length : Int))), (9, .pv (.int .i64 i4)), (17, .pv (.bool (decide (mget m2 w9 = 0))))] [.map (mp m2)] ?_ ?_
    · simp -implicitDefEqProofs only [RUNS, qindex, Nat.reduceAdd, Nat.reduceLeDiff, Nat.reduceSub, reduceIte, Nat.reduceEqDiff, Nat.reduceLT, reduceCtorEq, Nat.reduceMul, if_true, if_false, eq_self, ne_eq, env_bT, T_3, T_9, T_52, P30_eq, User.pv_eq, f12]
    refine AW.cond (b := decide (mget m2 w9 = 0)) rfl (fun hb13 => ?_) (fun hb13 => ?_)
    · replace h := bif_t hb13 h
      refine AW.seq ?_
      refine AW.reg hS [(4, .pv (.int .i64 26))] [.map (mp m2)] ?_ ?_
      · simp -implicitDefEqProofs only [RUNS, qindex, Nat.reduceAdd, Nat.reduceLeDiff, Nat.reduceSub, reduceIte, Nat.reduceEqDiff, Nat.reduceLT, reduceCtorEq, Nat.reduceMul, if_true, if_false, eq_self, ne_eq, env_bT, P30_eq, User.pv_eq]
      refine AW.ret ?_
      cases h
      show finish _ _ _ _ _ = _
      first | rfl | (simp [finish, resOf, renArgs, toPV, selObjs, sl])
    · replace h := bif_f hb13 h
      refine AW.skip ?_
      refine AW.seq ?_
      replace h := Option.bind_eq_some_iff.1 h; obtain ⟨w14, q15, h⟩ := h
      have f16 := lidx_g (guardO_t q15)
      refine AW.reg hS [(0, .mref 0), (1, .pv (.slice (List.map PV.str l1))), (7, .pv (.slice (List.map PV.str l1))), (8, .pv (.int .i64 (l1.length : Int))), (9, .pv (.int .i64 i4)), (28, .pv (.bool (decide (0 < i4) && !Op.bytesLess w14 w9)))] [.map (mp m2)] ?_ ?_
      · clear h
        (simp -implicitDefEqProofs only [RUNS, qindex, Nat.reduceAdd, Nat.reduceLeDiff, Nat.reduceSub, reduceIte, Nat.reduceEqDiff, Nat.reduceLT, reduceCtorEq, Nat.reduceMul, if_true, if_false, eq_self, ne_eq, env_bT, T_3, T_9, T_30, P30_eq, User.pv_eq, f16.1, f16.2.1]); repeat' (split <;> rename_i hb <;> (try simp only [HBS, ge_iff_le, gt_iff_lt] at hb) <;> simp -implicitDefEqProofs only [RUNS, qindex, Nat.reduceAdd, Nat.reduceLeDiff, Nat.reduceSub, reduceIte, Nat.reduceEqDiff, Nat.reduceLT, reduceCtorEq, Nat.reduceMul, if_true, if_false, eq_self, ne_eq, env_bT, T_3, T_9, T_30, P30_eq, User.pv_eq, f16.1, f16.2.1, *, decide_true, decide_false, Decidable.not_not, not_false_eq_true, not_true_eq_false])
        all_goals (first | (simp only [BOOLS]; done) | (simp [*]; done) | ((try simp only [CLOS, beq_iff_eq, bne_iff_ne, ne_eq] at *) <;> omega) | (simp_all; done) | (simp_all <;> omega))
      refine AW.cond (b := (decide (0 < i4) && !Op.bytesLess w14 w9)) rfl (fun hb17 => ?_) (fun hb17 => ?_)
      · replace h := bif_t hb17 h
        refine AW.seq ?_
        refine AW.reg hS [(4, .pv (.int .i64 26))] [.map (mp m2)] ?_ ?_
        · simp -implicitDefEqProofs only [RUNS, qindex, Nat.reduceAdd, Nat.reduceLeDiff, Nat.reduceSub, reduceIte, Nat.reduceEqDiff, Nat.reduceLT, reduceCtorEq, Nat.reduceMul, if_true, if_false, eq_self, ne_eq, env_bT, P30_eq, User.pv_eq]
        refine AW.ret ?_
        cases h
        show finish _ _ _ _ _ = _
        first | rfl | (simp [finish, resOf, renArgs, toPV, selObjs, sl])
      · replace h := bif_f hb17 h
        refine AW.skip ?_
        refine AW.reg hS [(0, .mref 0), (1, .pv (.slice (List.map PV.str l1))), (7, .pv (.slice (List.map PV.str l1))), (8, .pv (.int .i64 (l1.length : Int))), (9, .pv (.int .i64 (IntKind.wrap .i64 (i4 + 1))))] [.map (mp m2)] ?_ ?_
        · simp -implicitDefEqProofs only [RUNS, qindex, Nat.reduceAdd, Nat.reduceLeDiff, Nat.reduceSub, reduceIte, Nat.reduceEqDiff, Nat.reduceLT, reduceCtorEq, Nat.reduceMul, if_true, if_false, eq_self, ne_eq, env_bT, T_3, P30_eq, User.pv_eq]
        exact ⟨(m7, IntKind.wrap .i64 (i4 + 1)), h, (Weak.norm (m := 1) (Nat.le_of_ble_eq_true rfl) ⟨rfl, rfl, rfl, rfl, rfl, trivial⟩ rfl rfl rfl), Nat.lt_succ_self _⟩
  · replace h := bif_f hb8 h
    refine AW.exit ?_
    refine AW.seq ?_
    refine AW.reg hS [(4, .pv (.int .i64 0))] [.map (mp m2)] ?_ ?_
    · simp -implicitDefEqProofs only [RUNS, qindex, Nat.reduceAdd, Nat.reduceLeDiff, Nat.reduceSub, reduceIte, Nat.reduceEqDiff, Nat.reduceLT, reduceCtorEq, Nat.reduceMul, if_true, if_false, eq_self, ne_eq, env_bT, P30_eq, User.pv_eq]
    refine AW.ret ?_
    cases h
    show finish _ _ _ _ _ = _
    first | rfl | (simp [finish, resOf, renArgs, toPV, selObjs, sl])

set_option maxHeartbeats 4000000 in
theorem g_F16 {O : Orc} (hS : Sound env O) (hpf : O.pf = pfn) (c_F11 : C_F11 O) (c_F32 : C_F32 O) (l1 : List User) (r2 : Int) (h : F16 l1 = some r2) : Good env 16 [.pv (.slice (List.map User.pv l1))] [] [.pv (.int .i64 r2)] [] := by
  have pf_11 : O.pf 11 = true := by rw [hpf]; rfl
  have pf_32 : O.pf 32 = false := by rw [hpf]; rfl
  refine Good.start (fn := Tryd.f16) (N := 68) rfl rfl rfl (by simp) [] _ rfl rfl ?_
  rw [F16] at h
  refine AW.seq ?_
  refine AW.reg hS [(0, .pv (.slice (List.map User.pv l1)))] [] ?_ ?_
  · simp -implicitDefEqProofs only [RUNS, qindex, Nat.reduceAdd, Nat.reduceLeDiff, Nat.reduceSub, reduceIte, Nat.reduceEqDiff, Nat.reduceLT, reduceCtorEq, Nat.reduceMul, if_true, if_false, eq_self, ne_eq, env_bT, P30_eq, User.pv_eq]
  refine AW.seq ?_
  refine AW.seq ?_
  refine AW.reg hS [(0, .pv (.slice (List.map User.pv l1))), (12, .pv (.bool (decide (64 < (l1.length : Int)))))] [] ?_ ?_
  · simp -implicitDefEqProofs only [RUNS, qindex, Nat.reduceAdd, Nat.reduceLeDiff, Nat.reduceSub, reduceIte, Nat.reduceEqDiff, Nat.reduceLT, reduceCtorEq, Nat.reduceMul, if_true, if_false, eq_self, ne_eq, env_bT, T_3, T_24, T_32, P30_eq, User.pv_eq]
  refine AW.cond (b := decide (64 < (l1.length : Int))) rfl (fun hb3 => ?_) (fun hb3 => ?_)
  · replace h := bif_t hb3 h
    refine AW.seq ?_
    refine AW.reg hS [(2, .pv (.int .i64 22))] [] ?_ ?_
    · simp -implicitDefEqProofs only [RUNS, qindex, Nat.reduceAdd, Nat.reduceLeDiff, Nat.reduceSub, reduceIte, Nat.reduceEqDiff, Nat.reduceLT, reduceCtorEq, Nat.reduceMul, if_true, if_false, eq_self, ne_eq, env_bT, P30_eq, User.pv_eq]
    refine AW.ret ?_
    cases h
    show finish _ _ _ _ _ = _
    first | rfl | (simp [finish, resOf, renArgs, toPV, selObjs, sl])
  · replace h := bif_f hb3 h
    refine AW.skip ?_
    refine AW.seq ?_
    refine AW.reg hS [(0, .pv (.slice (List.map User.pv l1))), (3, .mref 0), (4, .mref 1)] [.map [], .map []] ?_ ?_
    · simp -implicitDefEqProofs only [RUNS, qindex, Nat.reduceAdd, Nat.reduceLeDiff, Nat.reduceSub, reduceIte, Nat.reduceEqDiff, Nat.reduceLT, reduceCtorEq, Nat.reduceMul, if_true, if_false, eq_self, ne_eq, env_bT, T_3, T_9, T_52, P30_eq, User.pv_eq]
    refine AW.seq ?_
    refine AW.seq ?_
    refine AW.reg hS [(0, .pv (.slice (List.map User.pv l1))), (3, .mref 0), (4, .mref 1), (15, .pv (.slice (List.map User.pv l1))), (16, .pv (.int .i64 (l1.length : Int))), (17, .pv (.int .i64 0))] [.map [], .map []] ?_ ?_
    · simp -implicitDefEqProofs only [RUNS, qindex, Nat.reduceAdd, Nat.reduceLeDiff, Nat.reduceSub, reduceIte, Nat.reduceEqDiff, Nat.reduceLT, reduceCtorEq, Nat.reduceMul, if_true, if_false, eq_self, ne_eq, env_bT, T_24, T_32, P30_eq, User.pv_eq]
    refine AW.block ?_
    refine AW.weak (Weak.slots (L := [(0, .pv (.slice (List.map User.pv l1))), (3, .mref 0), (4, .mref 1), (15, .pv (.slice (List.map User.pv l1))), (16, .pv (.int .i64 (l1.length : Int))), (17, .pv (.int .i64 0))]) ⟨rfl, rfl, rfl, rfl, rfl, rfl, trivial⟩) ?_
    refine AW.loopI (α := Nat × Int × (List (Str × Int))) (fun (_, i4, m5) => ⟨sl [(0, .pv (.slice (List.map User.pv l1))), (3, .mref 0), (4, .mref 1), (15, .pv (.slice (List.map User.pv l1))), (16, .pv (.int .i64 (l1.length : Int))), (17, .pv (.int .i64 i4))], 68, [.map (mp m5), .map []]⟩) (fun x => iter (F16_b1 l1) x.1 x.2 = some r2) (fun x => x.1) (BIG, (0, [])) h ?_
    clear h
    intro ⟨n40, i4, m5⟩ h
    replace h := iter_some h; obtain ⟨m8, rfl, h⟩ := h
    rw [F16_b1] at h
    try dsimp only at h
    show AW _ _ _ _ ⟨sl [(0, .pv (.slice (List.map User.pv l1))), (3, .mref 0), (4, .mref 1), (15, .pv (.slice (List.map User.pv l1))), (16, .pv (.int .i64 (l1.length : Int))), (17, .pv (.int .i64 i4))], 68, [.map (mp m5), .map []]⟩
    refine AW.seq ?_
    refine AW.reg hS [(0, .pv (.slice (List.map User.pv l1))), (3, .mref 0), (4, .mref 1), (15, .pv (.slice (List.map User.pv l1))), (16, .pv (.int .i64 (l1.length : Int))), (17, .pv (.int .i64 i4)), (18, .pv (.bool (decide (i4 < (l1.length : Int)))))] [.map (mp m5), .map []] ?_ ?_
    · simp -implicitDefEqProofs only [RUNS, qindex, Nat.reduceAdd, Nat.reduceLeDiff, Nat.reduceSub, reduceIte, Nat.reduceEqDiff, Nat.reduceLT, reduceCtorEq, Nat.reduceMul, if_true, if_false, eq_self, ne_eq, env_bT, T_3, P30_eq, User.pv_eq]
    refine AW.seq ?_
    refine AW.cond (b := decide (i4 < (l1.length : Int))) rfl (fun hb9 => ?_) (fun hb9 => ?_)
    · replace h := bif_t hb9 h
      refine AW.skip ?_
      refine AW.seq ?_
      refine AW.block ?_
      refine AW.seq ?_
      replace h := Option.bind_eq_some_iff.1 h; obtain ⟨u10, q11, h⟩ := h
      have f12 := lidx_f q11
      refine AW.reg hS [(0, .pv (.slice (List.map User.pv l1))), (3, .mref 0), (4, .mref 1), (6, .ref 2 0), (15, .pv (.slice (List.map User.pv l1))), (16, .pv (.int .i64 (l1.length : Int))), (17, .pv (.int .i64 i4))] [.map (mp m5), .map [], .var [.pv (.str u10.name_), .pv (.str u10.leader_), .pv (.slice (List.map PV.str u10.members_))]] ?_ ?_
      · simp -implicitDefEqProofs only [RUNS, qindex, Nat.reduceAdd, Nat.reduceLeDiff, Nat.reduceSub, reduceIte, Nat.reduceEqDiff, Nat.reduceLT, reduceCtorEq, Nat.reduceMul, if_true, if_false, eq_self, ne_eq, env_bT, T_24, T_32, P30_eq, User.pv_eq, f12.1, f12.2.1]
      have f13 : qlookup env.T [.map (mp m5), .map [], .var [.pv (.str u10.name_), .pv (.str u10.leader_), .pv (.slice (List.map PV.str u10.members_))]] 52 (.mref 0) (.pv (.str u10.name_)) false = _ := qlookup_mp (m := m5) T_52 T_9 T_3 rfl _
      have f14 : emapUpdate env [.map (mp m5), .map [], .var [.pv (.str u10.name_), .pv (.str u10.leader_), .pv (.slice (List.map PV.str u10.members_))]] 52 (.mref 0) (.pv (.str u10.name_)) (.pv (.int .i64 (IntKind.wrap .i64 ((mget m5 u10.name_) + 1)))) = _ := emap_mp (m := m5) T_52 T_9 rfl _ _
      refine AW.reg hS [(0, .pv (.slice (List.map User.pv l1))), (3, .mref 0), (4, .mref 1), (15, .pv (.slice (List.map User.pv l1))), (16, .pv (.int .i64 (l1.length : Int))), (17, .pv (.int .i64 i4))] [.map (mp (mput m5 u10.name_ (IntKind.wrap .i64 ((mget m5 u10.name_) + 1)))), .map [], .var [.pv (.str u10.name_), .pv (.str u10.leader_), .pv (.slice (List.map PV.str u10.members_))]] ?_ ?_
      · simp -implicitDefEqProofs only [RUNS, qindex, Nat.reduceAdd, Nat.reduceLeDiff, Nat.reduceSub, reduceIte, Nat.reduceEqDiff, Nat.reduceLT, reduceCtorEq, Nat.reduceMul, if_true, if_false, eq_self, ne_eq, env_bT, T_3, T_9, T_32, T_52, P30_eq, User.pv_eq, f13, f14]
      refine AW.reg hS [(0, .pv (.slice (List.map User.pv l1))), (3, .mref 0), (4, .mref 1), (15, .pv (.slice (List.map User.pv l1))), (16, .pv (.int .i64 (l1.length : Int))), (17, .pv (.int .i64 (IntKind.wrap .i64 (i4 + 1))))] [.map (mp (mput m5 u10.name_ (IntKind.wrap .i64 ((mget m5 u10.name_) + 1)))), .map [], .var [.pv (.str u10.name_), .pv (.str u10.leader_), .pv (.slice (List.map PV.str u10.members_))]] ?_ ?_
      · simp -implicitDefEqProofs only [RUNS, qindex, Nat.reduceAdd, Nat.reduceLeDiff, Nat.reduceSub, reduceIte, Nat.reduceEqDiff, Nat.reduceLT, reduceCtorEq, Nat.reduceMul, if_true, if_false, eq_self, ne_eq, env_bT, T_3, P30_eq, User.pv_eq]
      exact ⟨(m8, (IntKind.wrap .i64 (i4 + 1), mput m5 u10.name_ (IntKind.wrap .i64 ((mget m5 u10.name_) + 1)))), h, (Weak.norm (m := 2) (Nat.le_of_ble_eq_true rfl) ⟨rfl, rfl, rfl, rfl, rfl, rfl, trivial⟩ rfl rfl rfl), Nat.lt_succ_self _⟩
    · replace h := bif_f hb9 h
      refine AW.exit ?_
      refine AW.seq ?_
      refine AW.seq ?_
      refine AW.reg hS [(3, .mref 0), (4, .mref 1), (27, .pv (.slice (List.map User.pv l1))), (28, .pv (.int .i64 (l1.length : Int))), (29, .pv (.int .i64 0))] [.map (mp m5), .map []] ?_ ?_
      · simp -implicitDefEqProofs only [RUNS, qindex, Nat.reduceAdd, Nat.reduceLeDiff, Nat.reduceSub, reduceIte, Nat.reduceEqDiff, Nat.reduceLT, reduceCtorEq, Nat.reduceMul, if_true, if_false, eq_self, ne_eq, env_bT, T_24, T_32, P30_eq, User.pv_eq]
      refine AW.block ?_
      refine AW.weak (Weak.slots (L := [(3, .mref 0), (4, .mref 1), (27, .pv (.slice (List.map User.pv l1))), (28, .pv (.int .i64 (l1.length : Int))), (29, .pv (.int .i64 0))]) ⟨rfl, rfl, rfl, rfl, rfl, trivial⟩) ?_
      refine AW.loopI (α := Nat × Int × (List (Str × Int))) (fun (_, i15, m16) => ⟨sl [(3, .mref 0), (4, .mref 1), (27, .pv (.slice (List.map User.pv l1))), (28, .pv (.int .i64 (l1.length : Int))), (29, .pv (.int .i64 i15))], 68, [.map (mp m5), .map (mp m16)]⟩) (fun x => iter (F16_b2 l1 m5) x.1 x.2 = some r2) (fun x => x.1) (BIG, (0, [])) h ?_
      clear h
      intro ⟨n39, i15, m16⟩ h
      replace h := iter_some h; obtain ⟨m19, rfl, h⟩ := h
      rw [F16_b2] at h
      try dsimp only at h
      show AW _ _ _ _ ⟨sl [(3, .mref 0), (4, .mref 1), (27, .pv (.slice (List.map User.pv l1))), (28, .pv (.int .i64 (l1.length : Int))), (29, .pv (.int .i64 i15))], 68, [.map (mp m5), .map (mp m16)]⟩
      refine AW.seq ?_
      refine AW.reg hS [(3, .mref 0), (4, .mref 1), (27, .pv (.slice (List.map User.pv l1))), (28, .pv (.int .i64 (l1.length : Int))), (29, .pv (.int .i64 i15)), (30, .pv (.bool (decide (i15 < (l1.length : Int)))))] [.map (mp m5), .map (mp m16)] ?_ ?_
      · simp -implicitDefEqProofs only [RUNS, qindex, Nat.reduceAdd, Nat.reduceLeDiff, Nat.reduceSub, reduceIte, Nat.reduceEqDiff, Nat.reduceLT, reduceCtorEq, Nat.reduceMul, if_true, if_false, eq_self, ne_eq, env_bT, T_3, P30_eq, User.pv_eq]
      refine AW.seq ?_
      refine AW.cond (b := decide (i15 < (l1.length : Int))) rfl (fun hb20 => ?_) (fun hb20 => ?_)
      · replace h := bif_t hb20 h
        refine AW.skip ?_
        refine AW.seq ?_
        refine AW.block ?_
        refine AW.seq ?_
        replace h := Option.bind_eq_some_iff.1 h; obtain ⟨u21, q22, h⟩ := h
        have f23 := lidx_f q22
        refine AW.reg hS [(3, .mref 0), (4, .mref 1), (8, .ref 2 0), (27, .pv (.slice (List.map User.pv l1))), (28, .pv (.int .i64 (l1.length : Int))), (29, .pv (.int .i64 i15))] [.map (mp m5), .map (mp m16), .var [.pv (.str u21.name_), .pv (.str u21.leader_), .pv (.slice (List.map PV.str u21.members_))]] ?_ ?_
        · simp -implicitDefEqProofs only [RUNS, qindex, Nat.reduceAdd, Nat.reduceLeDiff, Nat.reduceSub, reduceIte, Nat.reduceEqDiff, Nat.reduceLT, reduceCtorEq, Nat.reduceMul, if_true, if_false, eq_self, ne_eq, env_bT, T_24, T_32, P30_eq, User.pv_eq, f23.1, f23.2.1]
        refine AW.seq ?_
        refine AW.block ?_
        refine AW.seq ?_
        replace h := Option.bind_eq_some_iff.1 h; obtain ⟨r24, q25, h⟩ := h
        have f26 := c_F11 u21.name_ r24 q25
        try dsimp only at f26
        refine AW.reg hS [(3, .mref 0), (4, .mref 1), (8, .ref 2 0), (27, .pv (.slice (List.map User.pv l1))), (28, .pv (.int .i64 (l1.length : Int))), (29, .pv (.int .i64 i15)), (33, .pv (.bool (!r24)))] [.map (mp m5), .map (mp m16), .var [.pv (.str u21.name_), .pv (.str u21.leader_), .pv (.slice (List.map PV.str u21.members_))]] ?_ ?_
        · simp -implicitDefEqProofs only [RUNS, qindex, Nat.reduceAdd, Nat.reduceLeDiff, Nat.reduceSub, reduceIte, Nat.reduceEqDiff, Nat.reduceLT, reduceCtorEq, Nat.reduceMul, if_true, if_false, eq_self, ne_eq, env_bT, T_9, T_32, P30_eq, User.pv_eq, pf_11, f26]
        refine AW.cond (b := !r24) rfl (fun hb27 => ?_) (fun hb27 => ?_)
        · replace h := bif_t hb27 h
          refine AW.seq ?_
          refine AW.reg hS [(2, .pv (.int .i64 25))] [.map (mp m5), .map (mp m16), .var [.pv (.str u21.name_), .pv (.str u21.leader_), .pv (.slice (List.map PV.str u21.members_))]] ?_ ?_
          · simp -implicitDefEqProofs only [RUNS, qindex, Nat.reduceAdd, Nat.reduceLeDiff, Nat.reduceSub, reduceIte, Nat.reduceEqDiff, Nat.reduceLT, reduceCtorEq, Nat.reduceMul, if_true, if_false, eq_self, ne_eq, env_bT, P30_eq, User.pv_eq]
          refine AW.ret ?_
          cases h
          show finish _ _ _ _ _ = _
          first | rfl | (simp [finish, resOf, renArgs, toPV, selObjs, sl])
        · replace h := bif_f hb27 h
          refine AW.seq ?_
          have f28 : qlookup env.T [.map (mp m5), .map (mp m16), .var [.pv (.str u21.name_), .pv (.str u21.leader_), .pv (.slice (List.map PV.str u21.members_))]] 52 (.mref 1) (.pv (.str u21.name_)) false = _ := qlookup_mp (m := m16) T_52 T_9 T_3 rfl _
          refine AW.reg hS [(3, .mref 0), (4, .mref 1), (8, .ref 2 0), (27, .pv (.slice (List.map User.pv l1))), (28, .pv (.int .i64 (l1.length : Int))), (29, .pv (.int .i64 i15)), (38, .pv (.bool (decide (0 < mget m16 u21.name_))))] [.map (mp m5), .map (mp m16), .var [.pv (.str u21.name_), .pv (.str u21.leader_), .pv (.slice (List.map PV.str u21.members_))]] ?_ ?_
          · simp -implicitDefEqProofs only [RUNS, qindex, Nat.reduceAdd, Nat.reduceLeDiff, Nat.reduceSub, reduceIte, Nat.reduceEqDiff, Nat.reduceLT, reduceCtorEq, Nat.reduceMul, if_true, if_false, eq_self, ne_eq, env_bT, T_3, T_9, T_32, T_52, P30_eq, User.pv_eq, f28]
          refine AW.cond (b := decide (0 < mget m16 u21.name_)) rfl (fun hb29 => ?_) (fun hb29 => ?_)
          · replace h := bif_t hb29 h
            refine AW.seq ?_
            refine AW.reg hS [(2, .pv (.int .i64 7))] [.map (mp m5), .map (mp m16), .var [.pv (.str u21.name_), .pv (.str u21.leader_), .pv (.slice (List.map PV.str u21.members_))]] ?_ ?_
            · simp -implicitDefEqProofs only [RUNS, qindex, Nat.reduceAdd, Nat.reduceLeDiff, Nat.reduceSub, reduceIte, Nat.reduceEqDiff, Nat.reduceLT, reduceCtorEq, Nat.reduceMul, if_true, if_false, eq_self, ne_eq, env_bT, P30_eq, User.pv_eq]
            refine AW.ret ?_
            cases h
            show finish _ _ _ _ _ = _
            first | rfl | (simp [finish, resOf, renArgs, toPV, selObjs, sl])
          · replace h := bif_f hb29 h
            refine AW.seq ?_
            have f30 : qlookup env.T [.map (mp m5), .map (mp m16), .var [.pv (.str u21.name_), .pv (.str u21.leader_), .pv (.slice (List.map PV.str u21.members_))]] 52 (.mref 0) (.pv (.str u21.leader_)) false = _ := qlookup_mp (m := m5) T_52 T_9 T_3 rfl _
            refine AW.reg hS [(3, .mref 0), (4, .mref 1), (8, .ref 2 0), (27, .pv (.slice (List.map User.pv l1))), (28, .pv (.int .i64 (l1.length : Int))), (29, .pv (.int .i64 i15)), (44, .pv (.bool (!decide (u21.leader_ = []) && decide (mget m5 u21.leader_ = 0))))] [.map (mp m5), .map (mp m16), .var [.pv (.str u21.name_), .pv (.str u21.leader_), .pv (.slice (List.map PV.str u21.members_))]] ?_ ?_
            · clear h
              (simp -implicitDefEqProofs only [RUNS, qindex, Nat.reduceAdd, Nat.reduceLeDiff, Nat.reduceSub, reduceIte, Nat.reduceEqDiff, Nat.reduceLT, reduceCtorEq, Nat.reduceMul, if_true, if_false, eq_self, ne_eq, env_bT, T_3, T_9, T_32, T_52, P30_eq, User.pv_eq, f30]); repeat' (split <;> rename_i hb <;> (try simp only [HBS, ge_iff_le, gt_iff_lt] at hb) <;> simp -implicitDefEqProofs only [RUNS, qindex, Nat.reduceAdd, Nat.reduceLeDiff, Nat.reduceSub, reduceIte, Nat.reduceEqDiff, Nat.reduceLT, reduceCtorEq, Nat.reduceMul, if_true, if_false, eq_self, ne_eq, env_bT, T_3, T_9, T_32, T_52, P30_eq, User.pv_eq, f30, *, decide_true, decide_false, Decidable.not_not, not_false_eq_true, not_true_eq_false])
              all_goals (first | (simp only [BOOLS]; done) | (simp [*]; done) | ((try simp only [CLOS, beq_iff_eq, bne_iff_ne, ne_eq] at *) <;> omega) | (simp_all; done) | (simp_all <;> omega))
            refine AW.cond (b := (!decide (u21.leader_ = []) && decide (mget m5 u21.leader_ = 0))) rfl (fun hb31 => ?_) (fun hb31 => ?_)
            · replace h := bif_t hb31 h
              refine AW.seq ?_
              refine AW.reg hS [(2, .pv (.int .i64 26))] [.map (mp m5), .map (mp m16), .var [.pv (.str u21.name_), .pv (.str u21.leader_), .pv (.slice (List.map PV.str u21.members_))]] ?_ ?_
              · simp -implicitDefEqProofs only [RUNS, qindex, Nat.reduceAdd, Nat.reduceLeDiff, Nat.reduceSub, reduceIte, Nat.reduceEqDiff, Nat.reduceLT, reduceCtorEq, Nat.reduceMul, if_true, if_false, eq_self, ne_eq, env_bT, P30_eq, User.pv_eq]
              refine AW.ret ?_
              cases h
              show finish _ _ _ _ _ = _
              first | rfl | (simp [finish, resOf, renArgs, toPV, selObjs, sl])
            · replace h := bif_f hb31 h
              refine AW.skip ?_
              refine AW.seq ?_
              refine AW.seq ?_
              replace h := Option.bind_eq_some_iff.1 h; obtain ⟨r32, q33, h⟩ := h
              have f34 := c_F32 u21.members_ m5 r32 q33
              try dsimp only at f34
              have e35 : ecall O [.map (mp m5), .map (mp m16), .var [.pv (.str u21.name_), .pv (.str u21.leader_), .pv (.slice (List.map PV.str u21.members_))]] 32 [.mref 0, .pv (.slice (List.map PV.str u21.members_))] = some (retAV [.pv (.int .i64 r32)], [.map (mp m5), .map (mp m16), .var [.pv (.str u21.name_), .pv (.str u21.leader_), .pv (.slice (List.map PV.str u21.members_))]]) := ecall_eq rfl rfl rfl f34 rfl rfl rfl
              refine AW.reg hS [(3, .mref 0), (4, .mref 1), (8, .ref 2 0), (9, .pv (.int .i64 r32)), (27, .pv (.slice (List.map User.pv l1))), (28, .pv (.int .i64 (l1.length : Int))), (29, .pv (.int .i64 i15))] [.map (mp m5), .map (mp m16), .var [.pv (.str u21.name_), .pv (.str u21.leader_), .pv (.slice (List.map PV.str u21.members_))]] ?_ ?_
              · simp -implicitDefEqProofs only [RUNS, qindex, Nat.reduceAdd, Nat.reduceLeDiff, Nat.reduceSub, reduceIte, Nat.reduceEqDiff, Nat.reduceLT, reduceCtorEq, Nat.reduceMul, if_true, if_false, eq_self, ne_eq, env_bT, T_3, T_9, T_30, T_32, T_52, P30_eq, User.pv_eq, pf_32, e35]
              refine AW.seq ?_
              refine AW.reg hS [(3, .mref 0), (4, .mref 1), (8, .ref 2 0), (9, .pv (.int .i64 r32)), (27, .pv (.slice (List.map User.pv l1))), (28, .pv (.int .i64 (l1.length : Int))), (29, .pv (.int .i64 i15)), (60, .pv (.bool (!decide (r32 = 0))))] [.map (mp m5), .map (mp m16), .var [.pv (.str u21.name_), .pv (.str u21.leader_), .pv (.slice (List.map PV.str u21.members_))]] ?_ ?_
              · simp -implicitDefEqProofs only [RUNS, qindex, Nat.reduceAdd, Nat.reduceLeDiff, Nat.reduceSub, reduceIte, Nat.reduceEqDiff, Nat.reduceLT, reduceCtorEq, Nat.reduceMul, if_true, if_false, eq_self, ne_eq, env_bT, T_26, P30_eq, User.pv_eq]
              refine AW.cond (b := !decide (r32 = 0)) rfl (fun hb36 => ?_) (fun hb36 => ?_)
              · replace h := bif_t hb36 h
                refine AW.seq ?_
                refine AW.reg hS [(2, .pv (.int .i64 r32))] [.map (mp m5), .map (mp m16), .var [.pv (.str u21.name_), .pv (.str u21.leader_), .pv (.slice (List.map PV.str u21.members_))]] ?_ ?_
                · simp -implicitDefEqProofs only [RUNS, qindex, Nat.reduceAdd, Nat.reduceLeDiff, Nat.reduceSub, reduceIte, Nat.reduceEqDiff, Nat.reduceLT, reduceCtorEq, Nat.reduceMul, if_true, if_false, eq_self, ne_eq, env_bT, P30_eq, User.pv_eq]
                refine AW.ret ?_
                cases h
                show finish _ _ _ _ _ = _
                first | rfl | (simp [finish, resOf, renArgs, toPV, selObjs, sl])
              · replace h := bif_f hb36 h
                refine AW.skip ?_
                have f37 : qlookup env.T [.map (mp m5), .map (mp m16), .var [.pv (.str u21.name_), .pv (.str u21.leader_), .pv (.slice (List.map PV.str u21.members_))]] 52 (.mref 1) (.pv (.str u21.name_)) false = _ := qlookup_mp (m := m16) T_52 T_9 T_3 rfl _
                have f38 : emapUpdate env [.map (mp m5), .map (mp m16), .var [.pv (.str u21.name_), .pv (.str u21.leader_), .pv (.slice (List.map PV.str u21.members_))]] 52 (.mref 1) (.pv (.str u21.name_)) (.pv (.int .i64 (IntKind.wrap .i64 ((mget m16 u21.name_) + 1)))) = _ := emap_mp (m := m16) T_52 T_9 rfl _ _
                refine AW.reg hS [(3, .mref 0), (4, .mref 1), (27, .pv (.slice (List.map User.pv l1))), (28, .pv (.int .i64 (l1.length : Int))), (29, .pv (.int .i64 i15))] [.map (mp m5), .map (mp (mput m16 u21.name_ (IntKind.wrap .i64 ((mget m16 u21.name_) + 1)))), .var [.pv (.str u21.name_), .pv (.str u21.leader_), .pv (.slice (List.map PV.str u21.members_))]] ?_ ?_
                · simp -implicitDefEqProofs only [RUNS, qindex, Nat.reduceAdd, Nat.reduceLeDiff, Nat.reduceSub, reduceIte, Nat.reduceEqDiff, Nat.reduceLT, reduceCtorEq, Nat.reduceMul, if_true, if_false, eq_self, ne_eq, env_bT, T_3, T_9, T_32, T_52, P30_eq, User.pv_eq, f37, f38]
                refine AW.reg hS [(3, .mref 0), (4, .mref 1), (27, .pv (.slice (List.map User.pv l1))), (28, .pv (.int .i64 (l1.length : Int))), (29, .pv (.int .i64 (IntKind.wrap .i64 (i15 + 1))))] [.map (mp m5), .map (mp (mput m16 u21.name_ (IntKind.wrap .i64 ((mget m16 u21.name_) + 1)))), .var [.pv (.str u21.name_), .pv (.str u21.leader_), .pv (.slice (List.map PV.str u21.members_))]] ?_ ?_
                · simp -implicitDefEqProofs only [RUNS, qindex, Nat.reduceAdd, Nat.reduceLeDiff, Nat.reduceSub, reduceIte, Nat.reduceEqDiff, Nat.reduceLT, reduceCtorEq, Nat.reduceMul, if_true, if_false, eq_self, ne_eq, env_bT, T_3, P30_eq, User.pv_eq]
                exact ⟨(m19, (IntKind.wrap .i64 (i15 + 1), mput m16 u21.name_ (IntKind.wrap .i64 ((mget m16 u21.name_) + 1)))), h, (Weak.norm (m := 2) (Nat.le_of_ble_eq_true rfl) ⟨rfl, rfl, rfl, rfl, rfl, trivial⟩ rfl rfl rfl), Nat.lt_succ_self _⟩
      · replace h := bif_f hb20 h
        refine AW.exit ?_
        refine AW.seq ?_
        refine AW.reg hS [(2, .pv (.int .i64 0))] [.map (mp m5), .map (mp m16)] ?_ ?_
        · simp -implicitDefEqProofs only [RUNS, qindex, Nat.reduceAdd, Nat.reduceLeDiff, Nat.reduceSub, reduceIte, Nat.reduceEqDiff, Nat.reduceLT, reduceCtorEq, Nat.reduceMul, if_true, if_false, eq_self, ne_eq, env_bT, P30_eq, User.pv_eq]
        refine AW.ret ?_
        cases h
        show finish _ _ _ _ _ = _
        first | rfl | (simp [finish, resOf, renArgs, toPV, selObjs, sl])

set_option maxHeartbeats 4000000 in
theorem g_F14 {O : Orc} (hS : Sound env O) (hpf : O.pf = pfn) (c_F16 : C_F16 O) (c_L_Join : C_L_Join O) (c_L_WriteString : C_L_WriteString O) (c_L_String : C_L_String O) (l1 : List User) (r2 : Str) (r3 : Int) (h : F14 l1 = some (r2, r3)) : Good env 14 [.pv (.slice (List.map User.pv l1))] [] [.pv (.str r2), .pv (.int .i64 r3)] [] := by
  have pf_16 : O.pf 16 = true := by rw [hpf]; rfl
  have pf_29 : O.pf 29 = false := by rw [hpf]; rfl
  have pf_30 : O.pf 30 = true := by rw [hpf]; rfl
  have pf_31 : O.pf 31 = false := by rw [hpf]; rfl
  refine Good.start (fn := Tryd.f14) (N := 34) rfl rfl rfl (by simp) [] _ rfl rfl ?_
  rw [F14] at h
  refine AW.seq ?_
  refine AW.reg hS [(0, .pv (.slice (List.map User.pv l1)))] [] ?_ ?_
  · simp -implicitDefEqProofs only [RUNS, qindex, Nat.reduceAdd, Nat.reduceLeDiff, Nat.reduceSub, reduceIte, Nat.reduceEqDiff, Nat.reduceLT, reduceCtorEq, Nat.reduceMul, if_true, if_false, eq_self, ne_eq, env_bT, P30_eq, User.pv_eq]
  refine AW.seq ?_
  refine AW.seq ?_
  replace h := Option.bind_eq_some_iff.1 h; obtain ⟨r4, q5, h⟩ := h
  have f6 := c_F16 l1 r4 q5
  try dsimp only at f6
  refine AW.reg hS [(0, .pv (.slice (List.map User.pv l1))), (4, .pv (.int .i64 r4))] [] ?_ ?_
  · simp -implicitDefEqProofs only [RUNS, qindex, Nat.reduceAdd, Nat.reduceLeDiff, Nat.reduceSub, reduceIte, Nat.reduceEqDiff, Nat.reduceLT, reduceCtorEq, Nat.reduceMul, if_true, if_false, eq_self, ne_eq, env_bT, T_24, T_32, P30_eq, User.pv_eq, pf_16, f6]
  refine AW.seq ?_
  refine AW.reg hS [(0, .pv (.slice (List.map User.pv l1))), (4, .pv (.int .i64 r4)), (11, .pv (.bool (!decide (r4 = 0))))] [] ?_ ?_
  · simp -implicitDefEqProofs only [RUNS, qindex, Nat.reduceAdd, Nat.reduceLeDiff, Nat.reduceSub, reduceIte, Nat.reduceEqDiff, Nat.reduceLT, reduceCtorEq, Nat.reduceMul, if_true, if_false, eq_self, ne_eq, env_bT, T_26, P30_eq, User.pv_eq]
  refine AW.cond (b := !decide (r4 = 0)) rfl (fun hb7 => ?_) (fun hb7 => ?_)
  · replace h := bif_t hb7 h
    refine AW.seq ?_
    refine AW.reg hS [(2, .pv (.str [])), (3, .pv (.int .i64 r4))] [] ?_ ?_
    · simp -implicitDefEqProofs only [RUNS, qindex, Nat.reduceAdd, Nat.reduceLeDiff, Nat.reduceSub, reduceIte, Nat.reduceEqDiff, Nat.reduceLT, reduceCtorEq, Nat.reduceMul, if_true, if_false, eq_self, ne_eq, env_bT, P30_eq, User.pv_eq]
    refine AW.ret ?_
    cases h
    show finish _ _ _ _ _ = _
    first | rfl | (simp [finish, resOf, renArgs, toPV, selObjs, sl])
  · replace h := bif_f hb7 h
    refine AW.skip ?_
    refine AW.seq ?_
    refine AW.reg hS [(0, .pv (.slice (List.map User.pv l1))), (5, .ref 0 0)] [.bld []] ?_ ?_
    · simp -implicitDefEqProofs only [RUNS, qindex, Nat.reduceAdd, Nat.reduceLeDiff, Nat.reduceSub, reduceIte, Nat.reduceEqDiff, Nat.reduceLT, reduceCtorEq, Nat.reduceMul, if_true, if_false, eq_self, ne_eq, env_bT, T_45, P30_eq, User.pv_eq]
    refine AW.seq ?_
    refine AW.seq ?_
    refine AW.reg hS [(5, .ref 0 0), (13, .pv (.slice (List.map User.pv l1))), (14, .pv (.int .i64 (l1.length : Int))), (15, .pv (.int .i64 0))] [.bld []] ?_ ?_
    · simp -implicitDefEqProofs only [RUNS, qindex, Nat.reduceAdd, Nat.reduceLeDiff, Nat.reduceSub, reduceIte, Nat.reduceEqDiff, Nat.reduceLT, reduceCtorEq, Nat.reduceMul, if_true, if_false, eq_self, ne_eq, env_bT, T_24, T_32, P30_eq, User.pv_eq]
    refine AW.block ?_
    refine AW.weak (Weak.slots (L := [(5, .ref 0 0), (13, .pv (.slice (List.map User.pv l1))), (14, .pv (.int .i64 (l1.length : Int))), (15, .pv (.int .i64 0))]) ⟨rfl, rfl, rfl, rfl, trivial⟩) ?_
    refine AW.loopI (α := Nat × Int × Str) (fun (_, i8, b9) => ⟨sl [(5, .ref 0 0), (13, .pv (.slice (List.map User.pv l1))), (14, .pv (.int .i64 (l1.length : Int))), (15, .pv (.int .i64 i8))], 34, [.bld b9]⟩) (fun x => iter (F14_b1 l1) x.1 x.2 = some (r2, r3)) (fun x => x.1) (BIG, (0, [])) h ?_
    clear h
    intro ⟨n44, i8, b9⟩ h
    replace h := iter_some h; obtain ⟨m12, rfl, h⟩ := h
    rw [F14_b1] at h
    try dsimp only at h
    show AW _ _ _ _ ⟨sl [(5, .ref 0 0), (13, .pv (.slice (List.map User.pv l1))), (14, .pv (.int .i64 (l1.length : Int))), (15, .pv (.int .i64 i8))], 34, [.bld b9]⟩
    refine AW.seq ?_
    refine AW.reg hS [(5, .ref 0 0), (13, .pv (.slice (List.map User.pv l1))), (14, .pv (.int .i64 (l1.length : Int))), (15, .pv (.int .i64 i8)), (16, .pv (.bool (decide (i8 < (l1.length : Int)))))] [.bld b9] ?_ ?_
    · simp -implicitDefEqProofs only [RUNS, qindex, Nat.reduceAdd, Nat.reduceLeDiff, Nat.reduceSub, reduceIte, Nat.reduceEqDiff, Nat.reduceLT, reduceCtorEq, Nat.reduceMul, if_true, if_false, eq_self, ne_eq, env_bT, T_3, P30_eq, User.pv_eq]
    refine AW.seq ?_
    refine AW.cond (b := decide (i8 < (l1.length : Int))) rfl (fun hb13 => ?_) (fun hb13 => ?_)
    · replace h := bif_t hb13 h
      refine AW.skip ?_
      refine AW.seq ?_
      refine AW.block ?_
      refine AW.seq ?_
      replace h := Option.bind_eq_some_iff.1 h; obtain ⟨u14, q15, h⟩ := h
      have f16 := lidx_f q15
      refine AW.reg hS [(5, .ref 0 0), (7, .ref 1 0), (13, .pv (.slice (List.map User.pv l1))), (14, .pv (.int .i64 (l1.length : Int))), (15, .pv (.int .i64 i8))] [.bld b9, .var [.pv (.str u14.name_), .pv (.str u14.leader_), .pv (.slice (List.map PV.str u14.members_))]] ?_ ?_
      · simp -implicitDefEqProofs only [RUNS, qindex, Nat.reduceAdd, Nat.reduceLeDiff, Nat.reduceSub, reduceIte, Nat.reduceEqDiff, Nat.reduceLT, reduceCtorEq, Nat.reduceMul, if_true, if_false, eq_self, ne_eq, env_bT, T_24, T_32, P30_eq, User.pv_eq, f16.1, f16.2.1]
      replace h := Option.bind_eq_some_iff.1 h; obtain ⟨s17, q18, h⟩ := h
      have f19 := catO_f q18
      try simp only [List.length_cons, List.length_nil, Nat.zero_add, Nat.reduceAdd, Nat.reduceLeDiff, Nat.add_zero, Nat.reduceMul] at f19
      replace h := Option.bind_eq_some_iff.1 h; obtain ⟨s20, q21, h⟩ := h
      have f22 := catO_f q21
      try simp only [List.length_cons, List.length_nil, Nat.zero_add, Nat.reduceAdd, Nat.reduceLeDiff, Nat.add_zero, Nat.reduceMul] at f22
      replace h := Option.bind_eq_some_iff.1 h; obtain ⟨s23, q24, h⟩ := h
      have f25 := catO_f q24
      try simp only [List.length_cons, List.length_nil, Nat.zero_add, Nat.reduceAdd, Nat.reduceLeDiff, Nat.add_zero, Nat.reduceMul] at f25
      replace h := Option.bind_eq_some_iff.1 h; obtain ⟨s26, q27, h⟩ := h
      have f28 := c_L_Join u14.members_ [44] s26 q27
      try dsimp only at f28
      try simp only [List.map_cons, List.map_nil, P30_eq, User.pv_eq] at f28
      replace h := Option.bind_eq_some_iff.1 h; obtain ⟨s29, q30, h⟩ := h
      have f31 := catO_f q30
      try simp only [List.length_cons, List.length_nil, Nat.zero_add, Nat.reduceAdd, Nat.reduceLeDiff, Nat.add_zero, Nat.reduceMul] at f31
      replace h := Option.bind_eq_some_iff.1 h; obtain ⟨s32, q33, h⟩ := h
      have f34 := catO_f q33
      try simp only [List.length_cons, List.length_nil, Nat.zero_add, Nat.reduceAdd, Nat.reduceLeDiff, Nat.add_zero, Nat.reduceMul] at f34
      replace h := Option.bind_eq_some_iff.1 h; obtain ⟨⟨n35, c36⟩, q37, h⟩ := h
      dsimp only at h
      have f38 := c_L_WriteString b9 s32 n35 c36 q37
      try dsimp only at f38
      have e39 : ecall O [.bld b9, .var [.pv (.str u14.name_), .pv (.str u14.leader_), .pv (.slice (List.map PV.str u14.members_))]] 29 [.ref 0 0, .pv (.str s32)] = some (retAV [.pv (.int .i64 n35), .pv (.nil)], [.bld c36, .var [.pv (.str u14.name_), .pv (.str u14.leader_), .pv (.slice (List.map PV.str u14.members_))]]) := ecall_eq rfl rfl rfl f38 rfl rfl rfl
      refine AW.dreg mixed hS (hpf ▸ (by kernel_rfl : orderOK pfn _ = true)) [(5, .ref 0 0), (13, .pv (.slice (List.map User.pv l1))), (14, .pv (.int .i64 (l1.length : Int))), (15, .pv (.int .i64 i8))] [.bld c36, .var [.pv (.str u14.name_), .pv (.str u14.leader_), .pv (.slice (List.map PV.str u14.members_))]] ?_ ?_
      · simp -implicitDefEqProofs only [RUNS, qindex, Nat.reduceAdd, Nat.reduceLeDiff, Nat.reduceSub, reduceIte, Nat.reduceEqDiff, Nat.reduceLT, reduceCtorEq, Nat.reduceMul, if_true, if_false, eq_self, ne_eq, env_bT, T_9, T_30, T_32, T_45, P30_eq, User.pv_eq, f19.1, f19.2, f22.1, f22.2, f25.1, f25.2, pf_30, f28, f31.1, f31.2, f34.1, f34.2, pf_29, e39]
      refine AW.reg hS [(5, .ref 0 0), (13, .pv (.slice (List.map User.pv l1))), (14, .pv (.int .i64 (l1.length : Int))), (15, .pv (.int .i64 (IntKind.wrap .i64 (i8 + 1))))] [.bld c36, .var [.pv (.str u14.name_), .pv (.str u14.leader_), .pv (.slice (List.map PV.str u14.members_))]] ?_ ?_
      · simp -implicitDefEqProofs only [RUNS, qindex, Nat.reduceAdd, Nat.reduceLeDiff, Nat.reduceSub, reduceIte, Nat.reduceEqDiff, Nat.reduceLT, reduceCtorEq, Nat.reduceMul, if_true, if_false, eq_self, ne_eq, env_bT, T_3, P30_eq, User.pv_eq]
      exact ⟨(m12, (IntKind.wrap .i64 (i8 + 1), c36)), h, (Weak.norm (m := 1) (Nat.le_of_ble_eq_true rfl) ⟨rfl, rfl, rfl, rfl, trivial⟩ rfl rfl rfl), Nat.lt_succ_self _⟩
    · replace h := bif_f hb13 h
      refine AW.exit ?_
      refine AW.seq ?_
      replace h := Option.bind_eq_some_iff.1 h; obtain ⟨s40, q41, h⟩ := h
      have f42 := c_L_String b9 s40 q41
      try dsimp only at f42
      have e43 : ecall O [.bld b9] 31 [.ref 0 0] = some (retAV [.pv (.str s40)], [.gone]) := ecall_eq rfl rfl rfl f42 rfl rfl rfl
      refine AW.reg hS [(2, .pv (.str s40)), (3, .pv (.int .i64 0))] [.gone] ?_ ?_
      · simp -implicitDefEqProofs only [RUNS, qindex, Nat.reduceAdd, Nat.reduceLeDiff, Nat.reduceSub, reduceIte, Nat.reduceEqDiff, Nat.reduceLT, reduceCtorEq, Nat.reduceMul, if_true, if_false, eq_self, ne_eq, env_bT, T_45, P30_eq, User.pv_eq, pf_31, e43]
      refine AW.ret ?_
      cases h
      show finish _ _ _ _ _ = _
      first | rfl | (simp [finish, resOf, renArgs, toPV, selObjs, sl])

set_option maxHeartbeats 4000000 in
theorem g_F38 {O : Orc} (hS : Sound env O) (hpf : O.pf = pfn) (c_L_Split : C_L_Split O) (c_L_Contains : C_L_Contains O) (s1 : Str) (r2 : User) (r3 : Bool) (h : F38 s1 = some (r2, r3)) : Good env 38 [.pv (.str s1)] [] [.pv (.agg [.str r2.name_, .str r2.leader_, .slice (List.map PV.str r2.members_)]), .pv (.bool r3)] [] := by
  have pf_36 : O.pf 36 = true := by rw [hpf]; rfl
  have pf_45 : O.pf 45 = true := by rw [hpf]; rfl
  refine Good.start (fn := Tryd.f38) (N := 34) rfl rfl rfl (by simp) [] _ rfl rfl ?_
  rw [F38] at h
  refine AW.seq ?_
  refine AW.reg hS [(0, .pv (.str s1)), (2, .ref 0 0)] [.var [.pv (.str []), .pv (.str []), .nils]] ?_ ?_
  · simp -implicitDefEqProofs only [RUNS, qindex, Nat.reduceAdd, Nat.reduceLeDiff, Nat.reduceSub, reduceIte, Nat.reduceEqDiff, Nat.reduceLT, reduceCtorEq, Nat.reduceMul, if_true, if_false, eq_self, ne_eq, env_bT, T_32, P30_eq, User.pv_eq]
  refine AW.seq ?_
  replace h := Option.bind_eq_some_iff.1 h; obtain ⟨l4, q5, h⟩ := h
  have f6 := c_L_Split s1 [58] l4 q5
  try dsimp only at f6
  try simp only [List.map_cons, List.map_nil, P30_eq, User.pv_eq] at f6
  refine AW.reg hS [(2, .ref 0 0), (4, .pv (.slice (List.map PV.str l4)))] [.var [.pv (.str []), .pv (.str []), .nils]] ?_ ?_
  · simp -implicitDefEqProofs only [RUNS, qindex, Nat.reduceAdd, Nat.reduceLeDiff, Nat.reduceSub, reduceIte, Nat.reduceEqDiff, Nat.reduceLT, reduceCtorEq, Nat.reduceMul, if_true, if_false, eq_self, ne_eq, env_bT, T_9, P30_eq, User.pv_eq, pf_45, f6]
  refine AW.seq ?_
  refine AW.seq ?_
  refine AW.reg hS [(2, .ref 0 0), (4, .pv (.slice (List.map PV.str l4))), (10, .pv (.bool (!decide ((l4.length : Int) = 3))))] [.var [.pv (.str []), .pv (.str []), .nils]] ?_ ?_
  · simp -implicitDefEqProofs only [RUNS, qindex, Nat.reduceAdd, Nat.reduceLeDiff, Nat.reduceSub, reduceIte, Nat.reduceEqDiff, Nat.reduceLT, reduceCtorEq, Nat.reduceMul, if_true, if_false, eq_self, ne_eq, env_bT, T_3, T_9, T_30, P30_eq, User.pv_eq]
  refine AW.cond (b := !decide ((l4.length : Int) = 3)) rfl (fun hb7 => ?_) (fun hb7 => ?_)
  · replace h := bif_t hb7 h
    refine AW.seq ?_
    refine AW.reg hS [(2, .ref 0 0), (3, .pv (.bool false))] [.var [.pv (.str []), .pv (.str []), .pv (.slice (List.map PV.str []))]] ?_ ?_
    · simp -implicitDefEqProofs only [RUNS, qindex, Nat.reduceAdd, Nat.reduceLeDiff, Nat.reduceSub, reduceIte, Nat.reduceEqDiff, Nat.reduceLT, reduceCtorEq, Nat.reduceMul, if_true, if_false, eq_self, ne_eq, env_bT, T_32, P30_eq, User.pv_eq]
    refine AW.ret ?_
    cases h
    show finish _ _ _ _ _ = _
    first | rfl | (simp [finish, resOf, renArgs, toPV, selObjs, sl])
  · replace h := bif_f hb7 h
    refine AW.skip ?_
    refine AW.seq ?_
    replace h := Option.bind_eq_some_iff.1 h; obtain ⟨w8, q9, h⟩ := h
    have f10 := lidx_f q9
    replace h := Option.bind_eq_some_iff.1 h; obtain ⟨w11, q12, h⟩ := h
    have f13 := lidx_f q12
    refine AW.dreg mixed hS (hpf ▸ (by kernel_rfl : orderOK pfn _ = true)) [(2, .ref 0 0), (4, .pv (.slice (List.map PV.str l4))), (5, .ref 1 0)] [.var [.pv (.str []), .pv (.str []), .nils], .var [.pv (.str w8), .pv (.str w11), .pv (.slice (List.map PV.str []))]] ?_ ?_
    · simp -implicitDefEqProofs only [RUNS, qindex, Nat.reduceAdd, Nat.reduceLeDiff, Nat.reduceSub, reduceIte, Nat.reduceEqDiff, Nat.reduceLT, reduceCtorEq, Nat.reduceMul, if_true, if_false, eq_self, ne_eq, env_bT, T_9, T_30, T_32, P30_eq, User.pv_eq, f10.1, f10.2.1, f13.1, f13.2.1]
    refine AW.seq ?_
    refine AW.seq ?_
    replace h := Option.bind_eq_some_iff.1 h; obtain ⟨w14, q15, h⟩ := h
    have f16 := lidx_f q15
    refine AW.reg hS [(2, .ref 0 0), (4, .pv (.slice (List.map PV.str l4))), (5, .ref 1 0), (22, .pv (.bool (decide (w14 = []))))] [.var [.pv (.str []), .pv (.str []), .nils], .var [.pv (.str w8), .pv (.str w11), .pv (.slice (List.map PV.str []))]] ?_ ?_
    · simp -implicitDefEqProofs only [RUNS, qindex, Nat.reduceAdd, Nat.reduceLeDiff, Nat.reduceSub, reduceIte, Nat.reduceEqDiff, Nat.reduceLT, reduceCtorEq, Nat.reduceMul, if_true, if_false, eq_self, ne_eq, env_bT, T_9, T_30, P30_eq, User.pv_eq, f16.1, f16.2.1]
    refine AW.cond (b := decide (w14 = [])) rfl (fun hb17 => ?_) (fun hb17 => ?_)
    · replace h := bif_t hb17 h
      refine AW.seq ?_
      refine AW.reg hS [(2, .ref 0 0), (3, .pv (.bool true))] [.var [.pv (.str w8), .pv (.str w11), .pv (.slice (List.map PV.str []))], .var [.pv (.str w8), .pv (.str w11), .pv (.slice (List.map PV.str []))]] ?_ ?_
      · simp -implicitDefEqProofs only [RUNS, qindex, Nat.reduceAdd, Nat.reduceLeDiff, Nat.reduceSub, reduceIte, Nat.reduceEqDiff, Nat.reduceLT, reduceCtorEq, Nat.reduceMul, if_true, if_false, eq_self, ne_eq, env_bT, T_32, P30_eq, User.pv_eq]
      refine AW.ret ?_
      cases h
      show finish _ _ _ _ _ = _
      first | rfl | (simp [finish, resOf, renArgs, toPV, selObjs, sl])
    · replace h := bif_f hb17 h
      refine AW.skip ?_
      refine AW.seq ?_
      replace h := Option.bind_eq_some_iff.1 h; obtain ⟨l18, q19, h⟩ := h
      have f20 := c_L_Split w14 [44] l18 q19
      try dsimp only at f20
      try simp only [List.map_cons, List.map_nil, P30_eq, User.pv_eq] at f20
      refine AW.reg hS [(2, .ref 0 0), (5, .ref 1 0)] [.var [.pv (.str []), .pv (.str []), .nils], .var [.pv (.str w8), .pv (.str w11), .pv (.slice (List.map PV.str l18))]] ?_ ?_
      · simp -implicitDefEqProofs only [RUNS, qindex, Nat.reduceAdd, Nat.reduceLeDiff, Nat.reduceSub, reduceIte, Nat.reduceEqDiff, Nat.reduceLT, reduceCtorEq, Nat.reduceMul, if_true, if_false, eq_self, ne_eq, env_bT, T_9, T_30, T_32, P30_eq, User.pv_eq, f16.1, f16.2.1, pf_45, f20]
      refine AW.seq ?_
      replace h := Option.bind_eq_some_iff.1 h; obtain ⟨ok21, q22, h⟩ := h
      have f23 := c_L_Contains l18 [] ok21 q22
      try dsimp only at f23
      refine AW.dreg mixed hS (hpf ▸ (by kernel_rfl : orderOK pfn _ = true)) [(2, .ref 0 0), (3, .pv (.bool (!ok21)))] [.var [.pv (.str w8), .pv (.str w11), .pv (.slice (List.map PV.str l18))], .var [.pv (.str w8), .pv (.str w11), .pv (.slice (List.map PV.str l18))]] ?_ ?_
      · simp -implicitDefEqProofs only [RUNS, qindex, Nat.reduceAdd, Nat.reduceLeDiff, Nat.reduceSub, reduceIte, Nat.reduceEqDiff, Nat.reduceLT, reduceCtorEq, Nat.reduceMul, if_true, if_false, eq_self, ne_eq, env_bT, T_9, T_30, T_32, P30_eq, User.pv_eq, pf_36, f23]
      refine AW.ret ?_
      cases h
      show finish _ _ _ _ _ = _
      first | rfl | (simp [finish, resOf, renArgs, toPV, selObjs, sl])

set_option maxHeartbeats 4000000 in
theorem g_F25 {O : Orc} (hS : Sound env O) (hpf : O.pf = pfn) (c_L_Cut : C_L_Cut O) (c_F38 : C_F38 O) (c_F16 : C_F16 O) (s1 : Str) (r2 : List User) (r3 : Int) (r4 : Int) (h : F25 s1 = some (r2, r3, r4)) : Good env 25 [.pv (.str s1)] [] [.pv (.slice (List.map User.pv r2)), .pv (.int .i64 r3), .pv (.int .i64 r4)] [] := by
  have pf_16 : O.pf 16 = true := by rw [hpf]; rfl
  have pf_37 : O.pf 37 = true := by rw [hpf]; rfl
  have pf_38 : O.pf 38 = true := by rw [hpf]; rfl
  refine Good.start (fn := Tryd.f25) (N := 47) rfl rfl rfl (by simp) [] _ rfl rfl ?_
  rw [F25] at h
  refine AW.seq ?_
  refine AW.reg hS [(0, .pv (.str s1))] [] ?_ ?_
  · simp -implicitDefEqProofs only [RUNS, qindex, Nat.reduceAdd, Nat.reduceLeDiff, Nat.reduceSub, reduceIte, Nat.reduceEqDiff, Nat.reduceLT, reduceCtorEq, Nat.reduceMul, if_true, if_false, eq_self, ne_eq, env_bT, P30_eq, User.pv_eq]
  refine AW.seq ?_
  refine AW.reg hS [(0, .pv (.str s1)), (5, .nils)] [] ?_ ?_
  · simp -implicitDefEqProofs only [RUNS, qindex, Nat.reduceAdd, Nat.reduceLeDiff, Nat.reduceSub, reduceIte, Nat.reduceEqDiff, Nat.reduceLT, reduceCtorEq, Nat.reduceMul, if_true, if_false, eq_self, ne_eq, env_bT, P30_eq, User.pv_eq]
  refine AW.weak (Weak.own 5 32 3 (by decide) rfl) ?_
  refine AW.weak (Weak.slots (L := [(0, .pv (.str s1)), (5, .vec 0 (List.length ([] : List User)))]) ⟨rfl, rfl, trivial⟩) ?_
  refine AW.seq ?_
  refine AW.reg hS [(0, .pv (.str s1)), (5, .vec 0 (List.length ([] : List User))), (6, .pv (.int .i64 0))] [.row 32 3 (List.map User.pv ([] : List User)) true] ?_ ?_
  · simp -implicitDefEqProofs only [RUNS, qindex, Nat.reduceAdd, Nat.reduceLeDiff, Nat.reduceSub, reduceIte, Nat.reduceEqDiff, Nat.reduceLT, reduceCtorEq, Nat.reduceMul, if_true, if_false, eq_self, ne_eq, env_bT, P30_eq, User.pv_eq]
  refine AW.seq ?_
  refine AW.block ?_
  refine AW.weak (Weak.slots (L := [(0, .pv (.str s1)), (5, .vec 0 (List.length ([] : List User))), (6, .pv (.int .i64 0))]) ⟨rfl, rfl, rfl, trivial⟩) ?_
  refine AW.loopI (α := Nat × Str × Int × (List User)) (fun (_, s5, n6, l7) => ⟨sl [(0, .pv (.str s5)), (5, .vec 0 (List.length l7)), (6, .pv (.int .i64 n6))], 47, [.row 32 3 (List.map User.pv l7) true]⟩) (fun x => iter F25_b1 x.1 x.2 = some (r2, r3, r4)) (fun x => x.1) (BIG, (s1, 0, ([] : List User))) h ?_
  clear h
  intro ⟨n29, s5, n6, l7⟩ h
  replace h := iter_some h; obtain ⟨m10, rfl, h⟩ := h
  rw [F25_b1] at h
  try dsimp only at h
  show AW _ _ _ _ ⟨sl [(0, .pv (.str s5)), (5, .vec 0 (List.length l7)), (6, .pv (.int .i64 n6))], 47, [.row 32 3 (List.map User.pv l7) true]⟩
  refine AW.seq ?_
  refine AW.seq ?_
  refine AW.reg hS [(0, .pv (.str s5)), (5, .vec 0 (List.length l7)), (6, .pv (.int .i64 n6)), (14, .pv (.bool (!decide (s5 = []))))] [.row 32 3 (List.map User.pv l7) true] ?_ ?_
  · simp -implicitDefEqProofs only [RUNS, qindex, Nat.reduceAdd, Nat.reduceLeDiff, Nat.reduceSub, reduceIte, Nat.reduceEqDiff, Nat.reduceLT, reduceCtorEq, Nat.reduceMul, if_true, if_false, eq_self, ne_eq, env_bT, T_9, P30_eq, User.pv_eq]
  refine AW.cond (b := !decide (s5 = [])) rfl (fun hb11 => ?_) (fun hb11 => ?_)
  · replace h := bif_t hb11 h
    refine AW.skip ?_
    refine AW.block ?_
    refine AW.seq ?_
    replace h := Option.bind_eq_some_iff.1 h; obtain ⟨⟨a12, b13, ok14⟩, q15, h⟩ := h
    dsimp only at h
    have f16 := c_L_Cut s5 [10] a12 b13 ok14 q15
    try dsimp only at f16
    try simp only [List.map_cons, List.map_nil, P30_eq, User.pv_eq] at f16
    refine AW.reg hS [(5, .vec 0 (List.length l7)), (6, .pv (.int .i64 n6)), (7, .pv (.str a12)), (8, .pv (.str b13)), (9, .pv (.bool ok14))] [.row 32 3 (List.map User.pv l7) true] ?_ ?_
    · simp -implicitDefEqProofs only [RUNS, qindex, Nat.reduceAdd, Nat.reduceLeDiff, Nat.reduceSub, reduceIte, Nat.reduceEqDiff, Nat.reduceLT, reduceCtorEq, Nat.reduceMul, if_true, if_false, eq_self, ne_eq, env_bT, T_9, P30_eq, User.pv_eq, pf_37, f16]
    refine AW.seq ?_
    replace h := Option.bind_eq_some_iff.1 h; obtain ⟨⟨r17, r18⟩, q19, h⟩ := h
    dsimp only at h
    have f20 := c_F38 a12 r17 r18 q19
    try dsimp only at f20
    refine AW.reg hS [(5, .vec 0 (List.length l7)), (6, .pv (.int .i64 n6)), (8, .pv (.str b13)), (9, .pv (.bool ok14)), (10, .ref 1 0), (11, .pv (.bool r18))] [.row 32 3 (List.map User.pv l7) true, .var [.pv (.str r17.name_), .pv (.str r17.leader_), .pv (.slice (List.map PV.str r17.members_))]] ?_ ?_
    · simp -implicitDefEqProofs only [RUNS, qindex, Nat.reduceAdd, Nat.reduceLeDiff, Nat.reduceSub, reduceIte, Nat.reduceEqDiff, Nat.reduceLT, reduceCtorEq, Nat.reduceMul, if_true, if_false, eq_self, ne_eq, env_bT, T_9, T_32, P30_eq, User.pv_eq, pf_38, f20]
    refine AW.seq ?_
    refine AW.seq ?_
    refine AW.reg hS [(5, .vec 0 (List.length l7)), (6, .pv (.int .i64 n6)), (8, .pv (.str b13)), (10, .ref 1 0), (31, .pv (.bool (!r18 || !ok14)))] [.row 32 3 (List.map User.pv l7) true, .var [.pv (.str r17.name_), .pv (.str r17.leader_), .pv (.slice (List.map PV.str r17.members_))]] ?_ ?_
    · clear h
      (simp -implicitDefEqProofs only [RUNS, qindex, Nat.reduceAdd, Nat.reduceLeDiff, Nat.reduceSub, reduceIte, Nat.reduceEqDiff, Nat.reduceLT, reduceCtorEq, Nat.reduceMul, if_true, if_false, eq_self, ne_eq, env_bT, P30_eq, User.pv_eq]); repeat' (split <;> rename_i hb <;> (try simp only [HBS, ge_iff_le, gt_iff_lt] at hb) <;> simp -implicitDefEqProofs only [RUNS, qindex, Nat.reduceAdd, Nat.reduceLeDiff, Nat.reduceSub, reduceIte, Nat.reduceEqDiff, Nat.reduceLT, reduceCtorEq, Nat.reduceMul, if_true, if_false, eq_self, ne_eq, env_bT, P30_eq, User.pv_eq, *, decide_true, decide_false, Decidable.not_not, not_false_eq_true, not_true_eq_false])
      all_goals (first | (simp only [BOOLS]; done) | (simp [*]; done) | ((try simp only [CLOS, beq_iff_eq, bne_iff_ne, ne_eq] at *) <;> omega) | (simp_all; done) | (simp_all <;> omega))
    refine AW.cond (b := (!r18 || !ok14)) rfl (fun hb21 => ?_) (fun hb21 => ?_)
    · replace h := bif_t hb21 h
      refine AW.seq ?_
      refine AW.reg hS [(2, .nils), (3, .pv (.int .i64 n6)), (4, .pv (.int .i64 2))] [.row 32 3 (List.map User.pv l7) true, .var [.pv (.str r17.name_), .pv (.str r17.leader_), .pv (.slice (List.map PV.str r17.members_))]] ?_ ?_
      · simp -implicitDefEqProofs only [RUNS, qindex, Nat.reduceAdd, Nat.reduceLeDiff, Nat.reduceSub, reduceIte, Nat.reduceEqDiff, Nat.reduceLT, reduceCtorEq, Nat.reduceMul, if_true, if_false, eq_self, ne_eq, env_bT, P30_eq, User.pv_eq]
      refine AW.ret ?_
      cases h
      show finish _ _ _ _ _ = _
      first | rfl | (simp [finish, resOf, renArgs, toPV, selObjs, sl])
    · replace h := bif_f hb21 h
      refine AW.skip ?_
      replace h := Option.bind_eq_some_iff.1 h; obtain ⟨out22, q23, h⟩ := h
      have f24 := appO_f q23
      try simp only [List.length_cons, List.length_nil, Nat.zero_add, Nat.reduceAdd, Nat.reduceLeDiff, Nat.add_zero, Nat.reduceMul] at f24
      refine AW.reg hS [(0, .pv (.str b13)), (5, .vec 0 (List.length out22)), (6, .pv (.int .i64 (IntKind.wrap .i64 (n6 + 1))))] [.row 32 3 (List.map User.pv out22) true, .var [.pv (.str r17.name_), .pv (.str r17.leader_), .pv (.slice (List.map PV.str r17.members_))]] ?_ ?_
      · simp -implicitDefEqProofs only [RUNS, qindex, Nat.reduceAdd, Nat.reduceLeDiff, Nat.reduceSub, reduceIte, Nat.reduceEqDiff, Nat.reduceLT, reduceCtorEq, Nat.reduceMul, if_true, if_false, eq_self, ne_eq, env_bT, T_3, T_24, T_32, P30_eq, User.pv_eq, f24.1, f24.2, User.all]
      exact ⟨(m10, (b13, IntKind.wrap .i64 (n6 + 1), out22)), h, (Weak.norm (m := 1) (Nat.le_of_ble_eq_true rfl) ⟨rfl, rfl, rfl, trivial⟩ rfl rfl rfl), Nat.lt_succ_self _⟩
  · replace h := bif_f hb11 h
    refine AW.exit ?_
    refine AW.seq ?_
    refine AW.seq ?_
    replace h := Option.bind_eq_some_iff.1 h; obtain ⟨r25, q26, h⟩ := h
    have f27 := c_F16 l7 r25 q26
    try dsimp only at f27
    refine AW.reg hS [(5, .vec 0 (List.length l7)), (6, .pv (.int .i64 n6)), (12, .pv (.int .i64 r25))] [.row 32 3 (List.map User.pv l7) true] ?_ ?_
    · simp -implicitDefEqProofs only [RUNS, qindex, Nat.reduceAdd, Nat.reduceLeDiff, Nat.reduceSub, reduceIte, Nat.reduceEqDiff, Nat.reduceLT, reduceCtorEq, Nat.reduceMul, if_true, if_false, eq_self, ne_eq, env_bT, T_24, T_32, P30_eq, User.pv_eq, pf_16, f27]
    refine AW.seq ?_
    refine AW.reg hS [(5, .vec 0 (List.length l7)), (6, .pv (.int .i64 n6)), (12, .pv (.int .i64 r25)), (43, .pv (.bool (!decide (r25 = 0))))] [.row 32 3 (List.map User.pv l7) true] ?_ ?_
    · simp -implicitDefEqProofs only [RUNS, qindex, Nat.reduceAdd, Nat.reduceLeDiff, Nat.reduceSub, reduceIte, Nat.reduceEqDiff, Nat.reduceLT, reduceCtorEq, Nat.reduceMul, if_true, if_false, eq_self, ne_eq, env_bT, T_26, P30_eq, User.pv_eq]
    refine AW.cond (b := !decide (r25 = 0)) rfl (fun hb28 => ?_) (fun hb28 => ?_)
    · replace h := bif_t hb28 h
      refine AW.seq ?_
      refine AW.reg hS [(2, .nils), (3, .pv (.int .i64 n6)), (4, .pv (.int .i64 r25))] [.row 32 3 (List.map User.pv l7) true] ?_ ?_
      · simp -implicitDefEqProofs only [RUNS, qindex, Nat.reduceAdd, Nat.reduceLeDiff, Nat.reduceSub, reduceIte, Nat.reduceEqDiff, Nat.reduceLT, reduceCtorEq, Nat.reduceMul, if_true, if_false, eq_self, ne_eq, env_bT, P30_eq, User.pv_eq]
      refine AW.ret ?_
      cases h
      show finish _ _ _ _ _ = _
      first | rfl | (simp [finish, resOf, renArgs, toPV, selObjs, sl])
    · replace h := bif_f hb28 h
      refine AW.skip ?_
      refine AW.seq ?_
      refine AW.reg hS [(2, .vec 0 (List.length l7)), (3, .pv (.int .i64 0)), (4, .pv (.int .i64 0))] [.row 32 3 (List.map User.pv l7) true] ?_ ?_
      · simp -implicitDefEqProofs only [RUNS, qindex, Nat.reduceAdd, Nat.reduceLeDiff, Nat.reduceSub, reduceIte, Nat.reduceEqDiff, Nat.reduceLT, reduceCtorEq, Nat.reduceMul, if_true, if_false, eq_self, ne_eq, env_bT, P30_eq, User.pv_eq]
      refine AW.ret ?_
      cases h
      show finish _ _ _ _ _ = _
      first | rfl | (simp [finish, resOf, renArgs, toPV, selObjs, sl])

end Go.Abs.U05
