/- The layer 5 laws: the functions walked. -/
import Derived.Test.YtibmhmnhiflmjaaDoorD1
set_option linter.unusedSimpArgs false
namespace Go.Abs.U05
open Go.RowKit Go.Proofs

set_option maxHeartbeats 4000000 in
theorem g_F5 {O : Orc} (hS : Sound env O) (hpf : O.pf = pfn) (c_F13 : C_F13 O) (c_F10 : C_F10 O) (c_F18 : C_F18 O) (c_F19 : C_F19 O) (c_F20 : C_F20 O) (c_F21 : C_F21 O) (c_F22 : C_F22 O) (c_F23 : C_F23 O) (c_F24 : C_F24 O) (l1 : List User) (name2 : Str) (group3 : Str) (r4 : Bool) (h : F5 l1 name2 group3 = some r4) : Good env 5 [.pv (.slice (List.map User.pv l1)), .pv (.str name2), .pv (.str group3)] [] [.pv (.bool r4)] [] := by
  have pf_10 : O.pf 10 = true := by rw [hpf]; rfl
  have pf_13 : O.pf 13 = true := by rw [hpf]; rfl
  have pf_18 : O.pf 18 = true := by rw [hpf]; rfl
  have pf_19 : O.pf 19 = true := by rw [hpf]; rfl
  have pf_20 : O.pf 20 = true := by rw [hpf]; rfl
  have pf_21 : O.pf 21 = true := by rw [hpf]; rfl
  have pf_22 : O.pf 22 = true := by rw [hpf]; rfl
  have pf_23 : O.pf 23 = true := by rw [hpf]; rfl
  have pf_24 : O.pf 24 = true := by rw [hpf]; rfl
  refine Good.start (fn := Tryd.f5) (N := 76) rfl rfl rfl (by simp) [] _ rfl rfl ?_
  rw [F5] at h
  refine AW.seq ?_
  refine AW.reg hS [(0, .pv (.slice (List.map User.pv l1))), (1, .pv (.str name2)), (2, .pv (.str group3))] [] ?_ ?_
  · simp -implicitDefEqProofs only [RUNS, qindex, Nat.reduceAdd, Nat.reduceLeDiff, Nat.reduceSub, reduceIte, Nat.reduceEqDiff, Nat.reduceLT, reduceCtorEq, Nat.reduceMul, if_true, if_false, eq_self, ne_eq, env_bT, P30_eq, User.pv_eq]
  refine AW.seq ?_
  refine AW.seq ?_
  replace h := Option.bind_eq_some_iff.1 h; obtain ⟨r5, q6, h⟩ := h
  have f7 := c_F13 l1 r5 q6
  try dsimp only at f7
  refine AW.reg hS [(0, .pv (.slice (List.map User.pv l1))), (1, .pv (.str name2)), (2, .pv (.str group3)), (23, .pv (.bool ((!r5 || decide (2000 < (name2.length : Int))) || decide (2000 < (group3.length : Int)))))] [] ?_ ?_
  · clear h
    (simp -implicitDefEqProofs only [RUNS, qindex, Nat.reduceAdd, Nat.reduceLeDiff, Nat.reduceSub, reduceIte, Nat.reduceEqDiff, Nat.reduceLT, reduceCtorEq, Nat.reduceMul, if_true, if_false, eq_self, ne_eq, env_bT, T_3, T_9, T_24, T_32, P30_eq, User.pv_eq, pf_13, f7]); repeat' (split <;> rename_i hb <;> (try simp only [HBS, ge_iff_le, gt_iff_lt] at hb) <;> simp -implicitDefEqProofs only [RUNS, qindex, Nat.reduceAdd, Nat.reduceLeDiff, Nat.reduceSub, reduceIte, Nat.reduceEqDiff, Nat.reduceLT, reduceCtorEq, Nat.reduceMul, if_true, if_false, eq_self, ne_eq, env_bT, T_3, T_9, T_24, T_32, P30_eq, User.pv_eq, pf_13, f7, *, decide_true, decide_false, Decidable.not_not, not_false_eq_true, not_true_eq_false])
    all_goals (first | (simp only [BOOLS]; done) | (simp [*]; done) | ((try simp only [CLOS, beq_iff_eq, bne_iff_ne, ne_eq] at *) <;> omega) | (simp_all; done) | (simp_all <;> omega))
  refine AW.cond (b := ((!r5 || decide (2000 < (name2.length : Int))) || decide (2000 < (group3.length : Int)))) rfl (fun hb8 => ?_) (fun hb8 => ?_)
  · replace h := bif_t hb8 h
    refine AW.seq ?_
    replace h := Option.bind_eq_some_iff.1 h; obtain ⟨r9, q10, h⟩ := h
    have f11 := c_F10 r9 q10
    try dsimp only at f11
    refine AW.reg hS [(6, .pv (.bool r9))] [] ?_ ?_
    · simp -implicitDefEqProofs only [RUNS, qindex, Nat.reduceAdd, Nat.reduceLeDiff, Nat.reduceSub, reduceIte, Nat.reduceEqDiff, Nat.reduceLT, reduceCtorEq, Nat.reduceMul, if_true, if_false, eq_self, ne_eq, env_bT, P30_eq, User.pv_eq, pf_10, f11]
    refine AW.ret ?_
    cases h
    show finish _ _ _ _ _ = _
    first | rfl | (simp [finish, resOf, renArgs, toPV, selObjs, sl])
  · replace h := bif_f hb8 h
    refine AW.skip ?_
    refine AW.seq ?_
    replace h := Option.bind_eq_some_iff.1 h; obtain ⟨⟨r12, r13⟩, q14, h⟩ := h
    dsimp only at h
    have f15 := c_F18 l1 name2 r12 r13 q14
    try dsimp only at f15
    refine AW.reg hS [(0, .pv (.slice (List.map User.pv l1))), (1, .pv (.str name2)), (2, .pv (.str group3)), (7, .ref 0 0), (8, .pv (.bool r13))] [.var [.pv (.str r12.name_), .pv (.str r12.leader_), .pv (.slice (List.map PV.str r12.members_))]] ?_ ?_
    · simp -implicitDefEqProofs only [RUNS, qindex, Nat.reduceAdd, Nat.reduceLeDiff, Nat.reduceSub, reduceIte, Nat.reduceEqDiff, Nat.reduceLT, reduceCtorEq, Nat.reduceMul, if_true, if_false, eq_self, ne_eq, env_bT, T_9, T_24, T_32, P30_eq, User.pv_eq, pf_18, f15]
    refine AW.seq ?_
    replace h := Option.bind_eq_some_iff.1 h; obtain ⟨⟨r16, r17⟩, q18, h⟩ := h
    dsimp only at h
    have f19 := c_F19 l1 name2 r16 r17 q18
    try dsimp only at f19
    refine AW.reg hS [(0, .pv (.slice (List.map User.pv l1))), (1, .pv (.str name2)), (2, .pv (.str group3)), (7, .ref 0 0), (8, .pv (.bool r13)), (9, .ref 1 0), (10, .pv (.bool r17))] [.var [.pv (.str r12.name_), .pv (.str r12.leader_), .pv (.slice (List.map PV.str r12.members_))], .var [.pv (.str r16.name_), .pv (.str r16.leader_), .pv (.slice (List.map PV.str r16.members_))]] ?_ ?_
    · simp -implicitDefEqProofs only [RUNS, qindex, Nat.reduceAdd, Nat.reduceLeDiff, Nat.reduceSub, reduceIte, Nat.reduceEqDiff, Nat.reduceLT, reduceCtorEq, Nat.reduceMul, if_true, if_false, eq_self, ne_eq, env_bT, T_9, T_24, T_32, P30_eq, User.pv_eq, pf_19, f19]
    refine AW.seq ?_
    replace h := Option.bind_eq_some_iff.1 h; obtain ⟨r20, q21, h⟩ := h
    have f22 := c_F20 r12 r16 r20 q21
    try dsimp only at f22
    replace h := Option.bind_eq_some_iff.1 h; obtain ⟨r23, q24, h⟩ := h
    have f25 := fun hg => c_F21 l1 name2 group3 r23 (guardO_t q24 hg)
    try dsimp only at f25
    replace h := Option.bind_eq_some_iff.1 h; obtain ⟨r26, q27, h⟩ := h
    have f28 := fun hg => c_F22 l1 name2 group3 r26 (guardO_t q27 hg)
    try dsimp only at f28
    replace h := Option.bind_eq_some_iff.1 h; obtain ⟨r29, q30, h⟩ := h
    have f31 := fun hg => c_F23 l1 name2 group3 r29 (guardO_t q30 hg)
    try dsimp only at f31
    replace h := Option.bind_eq_some_iff.1 h; obtain ⟨r32, q33, h⟩ := h
    have f34 := fun hg => c_F24 l1 name2 group3 r32 (guardO_t q33 hg)
    try dsimp only at f34
    replace h := Option.bind_eq_some_iff.1 h; obtain ⟨r35, q36, h⟩ := h
    have f37 := fun hg => c_F21 l1 name2 name2 r35 (guardO_t q36 hg)
    try dsimp only at f37
    replace h := Option.bind_eq_some_iff.1 h; obtain ⟨r38, q39, h⟩ := h
    have f40 := fun hg => c_F10 r38 (guardO_t q39 hg)
    try dsimp only at f40
    refine AW.reg hS [(6, .pv (.bool (((((r20 && (r13 == r17)) && (r23 == r26)) && (r29 == r32)) && r35) && r38)))] [.var [.pv (.str r12.name_), .pv (.str r12.leader_), .pv (.slice (List.map PV.str r12.members_))], .var [.pv (.str r16.name_), .pv (.str r16.leader_), .pv (.slice (List.map PV.str r16.members_))]] ?_ ?_
    · clear h
      (simp -implicitDefEqProofs only [RUNS, qindex, Nat.reduceAdd, Nat.reduceLeDiff, Nat.reduceSub, reduceIte, Nat.reduceEqDiff, Nat.reduceLT, reduceCtorEq, Nat.reduceMul, if_true, if_false, eq_self, ne_eq, env_bT, T_4, T_9, T_24, T_32, P30_eq, User.pv_eq, pf_20, f22, isBoolT_4, pf_21, f25, pf_22, f28, pf_23, f31, pf_24, f34, f37, pf_10, f40]); repeat' (split <;> rename_i hb <;> (try simp only [HBS, ge_iff_le, gt_iff_lt] at hb) <;> simp -implicitDefEqProofs only [RUNS, qindex, Nat.reduceAdd, Nat.reduceLeDiff, Nat.reduceSub, reduceIte, Nat.reduceEqDiff, Nat.reduceLT, reduceCtorEq, Nat.reduceMul, if_true, if_false, eq_self, ne_eq, env_bT, T_4, T_9, T_24, T_32, P30_eq, User.pv_eq, pf_20, f22, isBoolT_4, pf_21, f25, pf_22, f28, pf_23, f31, pf_24, f34, f37, pf_10, f40, *, decide_true, decide_false, Decidable.not_not, not_false_eq_true, not_true_eq_false])
      all_goals (first | (simp only [BOOLS]; done) | (simp [*]; done) | ((try simp only [CLOS, beq_iff_eq, bne_iff_ne, ne_eq] at *) <;> omega) | (simp_all; done) | (simp_all <;> omega))
    refine AW.ret ?_
    cases h
    show finish _ _ _ _ _ = _
    first | rfl | (simp [finish, resOf, renArgs, toPV, selObjs, sl])

set_option maxHeartbeats 4000000 in
theorem g_F39 {O : Orc} (hS : Sound env O) (hpf : O.pf = pfn) (s1 : Str) (separator2 : Int) (r3 : List Str) (h : F39 s1 separator2 = some r3) : Good env 39 [.pv (.str s1), .pv (.int .u8 separator2)] [] [.pv (.slice (List.map PV.str r3))] [] := by
  refine Good.start (fn := Tryd.f39) (N := 35) rfl rfl rfl (by simp) [] _ rfl rfl ?_
  rw [F39] at h
  refine AW.seq ?_
  refine AW.reg hS [(0, .pv (.str s1)), (1, .pv (.int .u8 separator2))] [] ?_ ?_
  · simp -implicitDefEqProofs only [RUNS, qindex, Nat.reduceAdd, Nat.reduceLeDiff, Nat.reduceSub, reduceIte, Nat.reduceEqDiff, Nat.reduceLT, reduceCtorEq, Nat.reduceMul, if_true, if_false, eq_self, ne_eq, env_bT, P30_eq, User.pv_eq]
  refine AW.seq ?_
  refine AW.reg hS [(0, .pv (.str s1)), (1, .pv (.int .u8 separator2)), (5, .nils)] [] ?_ ?_
  · simp -implicitDefEqProofs only [RUNS, qindex, Nat.reduceAdd, Nat.reduceLeDiff, Nat.reduceSub, reduceIte, Nat.reduceEqDiff, Nat.reduceLT, reduceCtorEq, Nat.reduceMul, if_true, if_false, eq_self, ne_eq, env_bT, P30_eq, User.pv_eq]
  refine AW.weak (Weak.own 5 9 1 (by decide) rfl) ?_
  refine AW.weak (Weak.slots (L := [(0, .pv (.str s1)), (1, .pv (.int .u8 separator2)), (5, .vec 0 (List.length ([] : List Str)))]) ⟨rfl, rfl, rfl, trivial⟩) ?_
  refine AW.seq ?_
  refine AW.reg hS [(0, .pv (.str s1)), (1, .pv (.int .u8 separator2)), (5, .vec 0 (List.length ([] : List Str))), (6, .pv (.int .i64 0))] [.row 9 1 (List.map PV.str ([] : List Str)) true] ?_ ?_
  · simp -implicitDefEqProofs only [RUNS, qindex, Nat.reduceAdd, Nat.reduceLeDiff, Nat.reduceSub, reduceIte, Nat.reduceEqDiff, Nat.reduceLT, reduceCtorEq, Nat.reduceMul, if_true, if_false, eq_self, ne_eq, env_bT, P30_eq, User.pv_eq]
  refine AW.seq ?_
  refine AW.seq ?_
  refine AW.reg hS [(0, .pv (.str s1)), (1, .pv (.int .u8 separator2)), (5, .vec 0 (List.length ([] : List Str))), (6, .pv (.int .i64 0)), (7, .pv (.int .i64 0))] [.row 9 1 (List.map PV.str ([] : List Str)) true] ?_ ?_
  · simp -implicitDefEqProofs only [RUNS, qindex, Nat.reduceAdd, Nat.reduceLeDiff, Nat.reduceSub, reduceIte, Nat.reduceEqDiff, Nat.reduceLT, reduceCtorEq, Nat.reduceMul, if_true, if_false, eq_self, ne_eq, env_bT, P30_eq, User.pv_eq]
  refine AW.block ?_
  refine AW.weak (Weak.slots (L := [(0, .pv (.str s1)), (1, .pv (.int .u8 separator2)), (5, .vec 0 (List.length ([] : List Str))), (6, .pv (.int .i64 0)), (7, .pv (.int .i64 0))]) ⟨rfl, rfl, rfl, rfl, rfl, trivial⟩) ?_
  refine AW.loopI (α := Nat × Int × Int × (List Str)) (fun (_, from4, i5, l6) => ⟨sl [(0, .pv (.str s1)), (1, .pv (.int .u8 separator2)), (5, .vec 0 (List.length l6)), (6, .pv (.int .i64 from4)), (7, .pv (.int .i64 i5))], 35, [.row 9 1 (List.map PV.str l6) true]⟩) (fun x => iter (F39_b1 s1 separator2) x.1 x.2 = some r3) (fun x => x.1) (BIG, (0, 0, ([] : List Str))) h ?_
  clear h
  intro ⟨n21, from4, i5, l6⟩ h
  replace h := iter_some h; obtain ⟨m9, rfl, h⟩ := h
  rw [F39_b1] at h
  try dsimp only at h
  show AW _ _ _ _ ⟨sl [(0, .pv (.str s1)), (1, .pv (.int .u8 separator2)), (5, .vec 0 (List.length l6)), (6, .pv (.int .i64 from4)), (7, .pv (.int .i64 i5))], 35, [.row 9 1 (List.map PV.str l6) true]⟩
  refine AW.seq ?_
  refine AW.seq ?_
  refine AW.reg hS [(0, .pv (.str s1)), (1, .pv (.int .u8 separator2)), (5, .vec 0 (List.length l6)), (6, .pv (.int .i64 from4)), (7, .pv (.int .i64 i5)), (11, .pv (.bool (decide (i5 ≤ (s1.length : Int)))))] [.row 9 1 (List.map PV.str l6) true] ?_ ?_
  · simp -implicitDefEqProofs only [RUNS, qindex, Nat.reduceAdd, Nat.reduceLeDiff, Nat.reduceSub, reduceIte, Nat.reduceEqDiff, Nat.reduceLT, reduceCtorEq, Nat.reduceMul, if_true, if_false, eq_self, ne_eq, env_bT, T_3, T_9, P30_eq, User.pv_eq]
  refine AW.cond (b := decide (i5 ≤ (s1.length : Int))) rfl (fun hb10 => ?_) (fun hb10 => ?_)
  · replace h := bif_t hb10 h
    refine AW.skip ?_
    refine AW.seq ?_
    refine AW.block ?_
    refine AW.seq ?_
    replace h := Option.bind_eq_some_iff.1 h; obtain ⟨c11, q12, h⟩ := h
    have f13 := sidx_g (guardO_t q12)
    refine AW.reg hS [(0, .pv (.str s1)), (1, .pv (.int .u8 separator2)), (5, .vec 0 (List.length l6)), (6, .pv (.int .i64 from4)), (7, .pv (.int .i64 i5)), (24, .pv (.bool (decide (i5 = (s1.length : Int)) || decide (c11 = separator2))))] [.row 9 1 (List.map PV.str l6) true] ?_ ?_
    · clear h
      (simp -implicitDefEqProofs only [RUNS, qindex, Nat.reduceAdd, Nat.reduceLeDiff, Nat.reduceSub, reduceIte, Nat.reduceEqDiff, Nat.reduceLT, reduceCtorEq, Nat.reduceMul, if_true, if_false, eq_self, ne_eq, env_bT, T_3, T_5, T_9, P30_eq, User.pv_eq, f13.1, f13.2.1, f13.2.2]); repeat' (split <;> rename_i hb <;> (try simp only [HBS, ge_iff_le, gt_iff_lt] at hb) <;> simp -implicitDefEqProofs only [RUNS, qindex, Nat.reduceAdd, Nat.reduceLeDiff, Nat.reduceSub, reduceIte, Nat.reduceEqDiff, Nat.reduceLT, reduceCtorEq, Nat.reduceMul, if_true, if_false, eq_self, ne_eq, env_bT, T_3, T_5, T_9, P30_eq, User.pv_eq, f13.1, f13.2.1, f13.2.2, *, decide_true, decide_false, Decidable.not_not, not_false_eq_true, not_true_eq_false])
      all_goals (first | (simp only [BOOLS]; done) | (simp [*]; done) | ((try simp only [CLOS, beq_iff_eq, bne_iff_ne, ne_eq] at *) <;> omega) | (simp_all; done) | (simp_all <;> omega))
    refine AW.cond (b := (decide (i5 = (s1.length : Int)) || decide (c11 = separator2))) rfl (fun hb14 => ?_) (fun hb14 => ?_)
    · replace h := bif_t hb14 h
      refine AW.seq ?_
      replace h := Option.bind_eq_some_iff.1 h; obtain ⟨t15, q16, h⟩ := h
      have f17 := sslice_f q16
      replace h := Option.bind_eq_some_iff.1 h; obtain ⟨out18, q19, h⟩ := h
      have f20 := appO_f q19
      try simp only [List.length_cons, List.length_nil, Nat.zero_add, Nat.reduceAdd, Nat.reduceLeDiff, Nat.add_zero, Nat.reduceMul] at f20
      refine AW.reg hS [(0, .pv (.str s1)), (1, .pv (.int .u8 separator2)), (5, .vec 0 (List.length out18)), (7, .pv (.int .i64 i5))] [.row 9 1 (List.map PV.str out18) true] ?_ ?_
      · simp -implicitDefEqProofs only [RUNS, qindex, Nat.reduceAdd, Nat.reduceLeDiff, Nat.reduceSub, reduceIte, Nat.reduceEqDiff, Nat.reduceLT, reduceCtorEq, Nat.reduceMul, if_true, if_false, eq_self, ne_eq, env_bT, T_9, T_30, P30_eq, User.pv_eq, f17.1, f17.2.1, f17.2.2.1, f17.2.2.2.1, f17.2.2.2.2, Int.toNat_natCast, Int.toNat_zero, f20.1, f20.2, str_all]
      refine AW.reg hS [(0, .pv (.str s1)), (1, .pv (.int .u8 separator2)), (5, .vec 0 (List.length out18)), (6, .pv (.int .i64 (IntKind.wrap .i64 (i5 + 1)))), (7, .pv (.int .i64 i5))] [.row 9 1 (List.map PV.str out18) true] ?_ ?_
      · simp -implicitDefEqProofs only [RUNS, qindex, Nat.reduceAdd, Nat.reduceLeDiff, Nat.reduceSub, reduceIte, Nat.reduceEqDiff, Nat.reduceLT, reduceCtorEq, Nat.reduceMul, if_true, if_false, eq_self, ne_eq, env_bT, T_3, P30_eq, User.pv_eq]
      refine AW.reg hS [(0, .pv (.str s1)), (1, .pv (.int .u8 separator2)), (5, .vec 0 (List.length out18)), (6, .pv (.int .i64 (IntKind.wrap .i64 (i5 + 1)))), (7, .pv (.int .i64 (IntKind.wrap .i64 (i5 + 1))))] [.row 9 1 (List.map PV.str out18) true] ?_ ?_
      · simp -implicitDefEqProofs only [RUNS, qindex, Nat.reduceAdd, Nat.reduceLeDiff, Nat.reduceSub, reduceIte, Nat.reduceEqDiff, Nat.reduceLT, reduceCtorEq, Nat.reduceMul, if_true, if_false, eq_self, ne_eq, env_bT, T_3, P30_eq, User.pv_eq]
      exact ⟨(m9, (IntKind.wrap .i64 (i5 + 1), IntKind.wrap .i64 (i5 + 1), out18)), h, (Weak.norm (m := 1) (Nat.le_of_ble_eq_true rfl) ⟨rfl, rfl, rfl, rfl, rfl, trivial⟩ rfl rfl rfl), Nat.lt_succ_self _⟩
    · replace h := bif_f hb14 h
      refine AW.skip ?_
      refine AW.reg hS [(0, .pv (.str s1)), (1, .pv (.int .u8 separator2)), (5, .vec 0 (List.length l6)), (6, .pv (.int .i64 from4)), (7, .pv (.int .i64 (IntKind.wrap .i64 (i5 + 1))))] [.row 9 1 (List.map PV.str l6) true] ?_ ?_
      · simp -implicitDefEqProofs only [RUNS, qindex, Nat.reduceAdd, Nat.reduceLeDiff, Nat.reduceSub, reduceIte, Nat.reduceEqDiff, Nat.reduceLT, reduceCtorEq, Nat.reduceMul, if_true, if_false, eq_self, ne_eq, env_bT, T_3, P30_eq, User.pv_eq]
      exact ⟨(m9, (from4, IntKind.wrap .i64 (i5 + 1), l6)), h, (Weak.norm (m := 1) (Nat.le_of_ble_eq_true rfl) ⟨rfl, rfl, rfl, rfl, rfl, trivial⟩ rfl rfl rfl), Nat.lt_succ_self _⟩
  · replace h := bif_f hb10 h
    refine AW.exit ?_
    refine AW.seq ?_
    refine AW.reg hS [(4, .vec 0 (List.length l6))] [.row 9 1 (List.map PV.str l6) true] ?_ ?_
    · simp -implicitDefEqProofs only [RUNS, qindex, Nat.reduceAdd, Nat.reduceLeDiff, Nat.reduceSub, reduceIte, Nat.reduceEqDiff, Nat.reduceLT, reduceCtorEq, Nat.reduceMul, if_true, if_false, eq_self, ne_eq, env_bT, P30_eq, User.pv_eq]
    refine AW.ret ?_
    cases h
    show finish _ _ _ _ _ = _
    first | rfl | (simp [finish, resOf, renArgs, toPV, selObjs, sl])

set_option maxHeartbeats 4000000 in
theorem g_F40 {O : Orc} (hS : Sound env O) (hpf : O.pf = pfn) (c_F39 : C_F39 O) (s1 : Str) (r2 : User) (r3 : Bool) (h : F40 s1 = some (r2, r3)) : Good env 40 [.pv (.str s1)] [] [.pv (.agg [.str r2.name_, .str r2.leader_, .slice (List.map PV.str r2.members_)]), .pv (.bool r3)] [] := by
  have pf_39 : O.pf 39 = true := by rw [hpf]; rfl
  refine Good.start (fn := Tryd.f40) (N := 45) rfl rfl rfl (by simp) [] _ rfl rfl ?_
  rw [F40] at h
  refine AW.seq ?_
  refine AW.reg hS [(0, .pv (.str s1)), (2, .ref 0 0)] [.var [.pv (.str []), .pv (.str []), .nils]] ?_ ?_
  · simp -implicitDefEqProofs only [RUNS, qindex, Nat.reduceAdd, Nat.reduceLeDiff, Nat.reduceSub, reduceIte, Nat.reduceEqDiff, Nat.reduceLT, reduceCtorEq, Nat.reduceMul, if_true, if_false, eq_self, ne_eq, env_bT, T_32, P30_eq, User.pv_eq]
  refine AW.seq ?_
  replace h := Option.bind_eq_some_iff.1 h; obtain ⟨r4, q5, h⟩ := h
  have f6 := c_F39 s1 58 r4 q5
  try dsimp only at f6
  refine AW.reg hS [(2, .ref 0 0), (4, .pv (.slice (List.map PV.str r4)))] [.var [.pv (.str []), .pv (.str []), .nils]] ?_ ?_
  · simp -implicitDefEqProofs only [RUNS, qindex, Nat.reduceAdd, Nat.reduceLeDiff, Nat.reduceSub, reduceIte, Nat.reduceEqDiff, Nat.reduceLT, reduceCtorEq, Nat.reduceMul, if_true, if_false, eq_self, ne_eq, env_bT, T_5, T_9, P30_eq, User.pv_eq, pf_39, f6]
  refine AW.seq ?_
  refine AW.seq ?_
  refine AW.reg hS [(2, .ref 0 0), (4, .pv (.slice (List.map PV.str r4))), (11, .pv (.bool (!decide ((r4.length : Int) = 3))))] [.var [.pv (.str []), .pv (.str []), .nils]] ?_ ?_
  · simp -implicitDefEqProofs only [RUNS, qindex, Nat.reduceAdd, Nat.reduceLeDiff, Nat.reduceSub, reduceIte, Nat.reduceEqDiff, Nat.reduceLT, reduceCtorEq, Nat.reduceMul, if_true, if_false, eq_self, ne_eq, env_bT, T_3, T_9, T_30, P30_eq, User.pv_eq]
  refine AW.cond (b := !decide ((r4.length : Int) = 3)) rfl (fun hb7 => ?_) (fun hb7 => ?_)
  · replace h := bif_t hb7 h
    refine AW.seq ?_
    refine AW.reg hS [(2, .ref 0 0), (3, .pv (.bool false))] [.var [.pv (.str []), .pv (.str []), .pv (.slice (List.map PV.str []))]] ?_ ?_
    · simp -implicitDefEqProofs only [RUNS, qindex, Nat.reduceAdd, Nat.reduceLeDiff, Nat.reduceSub, reduceIte, Nat.reduceEqDiff, Nat.reduceLT, reduceCtorEq, Nat.reduceMul, if_true, if_false, eq_self, ne_eq, env_bT, T_32, P30_eq, User.pv_eq]
    refine AW.ret ?_
    cases h
    show finish _ _ _ _ _ = _
    first | rfl | (simp [finish, resOf, renArgs, toPV, selObjs, sl])
  · replace h := bif_f hb7 h
    refine AW.skip ?_
    refine AW.seq ?_
    replace h := Option.bind_eq_some_iff.1 h; obtain ⟨w8, q9, h⟩ := h
    have f10 := lidx_f q9
    replace h := Option.bind_eq_some_iff.1 h; obtain ⟨w11, q12, h⟩ := h
    have f13 := lidx_f q12
    refine AW.dreg mixed hS (hpf ▸ (by kernel_rfl : orderOK pfn _ = true)) [(2, .ref 0 0), (4, .pv (.slice (List.map PV.str r4))), (5, .ref 1 0)] [.var [.pv (.str []), .pv (.str []), .nils], .var [.pv (.str w8), .pv (.str w11), .pv (.slice (List.map PV.str []))]] ?_ ?_
    · simp -implicitDefEqProofs only [RUNS, qindex, Nat.reduceAdd, Nat.reduceLeDiff, Nat.reduceSub, reduceIte, Nat.reduceEqDiff, Nat.reduceLT, reduceCtorEq, Nat.reduceMul, if_true, if_false, eq_self, ne_eq, env_bT, T_9, T_30, T_32, P30_eq, User.pv_eq, f10.1, f10.2.1, f13.1, f13.2.1]
    refine AW.seq ?_
    refine AW.seq ?_
    replace h := Option.bind_eq_some_iff.1 h; obtain ⟨w14, q15, h⟩ := h
    have f16 := lidx_f q15
    refine AW.reg hS [(2, .ref 0 0), (4, .pv (.slice (List.map PV.str r4))), (5, .ref 1 0), (23, .pv (.bool (decide (w14 = []))))] [.var [.pv (.str []), .pv (.str []), .nils], .var [.pv (.str w8), .pv (.str w11), .pv (.slice (List.map PV.str []))]] ?_ ?_
    · simp -implicitDefEqProofs only [RUNS, qindex, Nat.reduceAdd, Nat.reduceLeDiff, Nat.reduceSub, reduceIte, Nat.reduceEqDiff, Nat.reduceLT, reduceCtorEq, Nat.reduceMul, if_true, if_false, eq_self, ne_eq, env_bT, T_9, T_30, P30_eq, User.pv_eq, f16.1, f16.2.1]
    refine AW.cond (b := decide (w14 = [])) rfl (fun hb17 => ?_) (fun hb17 => ?_)
    · replace h := bif_t hb17 h
      refine AW.seq ?_
      refine AW.reg hS [(2, .ref 0 0), (3, .pv (.bool true))] [.var [.pv (.str w8), .pv (.str w11), .pv (.slice (List.map PV.str []))], .var [.pv (.str w8), .pv (.str w11), .pv (.slice (List.map PV.str []))]] ?_ ?_
      · simp -implicitDefEqProofs only [RUNS, qindex, Nat.reduceAdd, Nat.reduceLeDiff, Nat.reduceSub, reduceIte, Nat.reduceEqDiff, Nat.reduceLT, reduceCtorEq, Nat.reduceMul, if_true, if_false, eq_self, ne_eq, env_bT, T_32, P30_eq, User.pv_eq]
      refine AW.ret ?_
      cases h
      show finish _ _ _ _ _ = _
      first | rfl | (simp [finish, resOf, renArgs, toPV, selObjs, sl])
    · replace h := bif_f hb17 h
      refine AW.skip ?_
      refine AW.seq ?_
      replace h := Option.bind_eq_some_iff.1 h; obtain ⟨r18, q19, h⟩ := h
      have f20 := c_F39 w14 44 r18 q19
      try dsimp only at f20
      refine AW.reg hS [(2, .ref 0 0), (5, .ref 1 0)] [.var [.pv (.str []), .pv (.str []), .nils], .var [.pv (.str w8), .pv (.str w11), .pv (.slice (List.map PV.str r18))]] ?_ ?_
      · simp -implicitDefEqProofs only [RUNS, qindex, Nat.reduceAdd, Nat.reduceLeDiff, Nat.reduceSub, reduceIte, Nat.reduceEqDiff, Nat.reduceLT, reduceCtorEq, Nat.reduceMul, if_true, if_false, eq_self, ne_eq, env_bT, T_5, T_9, T_30, T_32, P30_eq, User.pv_eq, f16.1, f16.2.1, pf_39, f20]
      refine AW.seq ?_
      refine AW.seq ?_
      refine AW.reg hS [(2, .ref 0 0), (5, .ref 1 0), (32, .pv (.int .i64 (r18.length : Int))), (33, .pv (.int .i64 0))] [.var [.pv (.str []), .pv (.str []), .nils], .var [.pv (.str w8), .pv (.str w11), .pv (.slice (List.map PV.str r18))]] ?_ ?_
      · simp -implicitDefEqProofs only [RUNS, qindex, Nat.reduceAdd, Nat.reduceLeDiff, Nat.reduceSub, reduceIte, Nat.reduceEqDiff, Nat.reduceLT, reduceCtorEq, Nat.reduceMul, if_true, if_false, eq_self, ne_eq, env_bT, T_9, T_30, T_32, P30_eq, User.pv_eq]
      refine AW.block ?_
      refine AW.weak (Weak.slots (L := [(2, .ref 0 0), (5, .ref 1 0), (32, .pv (.int .i64 (r18.length : Int))), (33, .pv (.int .i64 0))]) ⟨rfl, rfl, rfl, rfl, trivial⟩) ?_
      refine AW.loopI (α := Nat × Int) (fun (_, i21) => ⟨sl [(2, .ref 0 0), (5, .ref 1 0), (32, .pv (.int .i64 (r18.length : Int))), (33, .pv (.int .i64 i21))], 45, [.var [.pv (.str []), .pv (.str []), .nils], .var [.pv (.str w8), .pv (.str w11), .pv (.slice (List.map PV.str r18))]]⟩) (fun x => iter (F40_b1 r18 w8 w11) x.1 x.2 = some (r2, r3)) (fun x => x.1) (BIG, 0) h ?_
      clear h
      intro ⟨n30, i21⟩ h
      replace h := iter_some h; obtain ⟨m24, rfl, h⟩ := h
      rw [F40_b1] at h
      try dsimp only at h
      show AW _ _ _ _ ⟨sl [(2, .ref 0 0), (5, .ref 1 0), (32, .pv (.int .i64 (r18.length : Int))), (33, .pv (.int .i64 i21))], 45, [.var [.pv (.str []), .pv (.str []), .nils], .var [.pv (.str w8), .pv (.str w11), .pv (.slice (List.map PV.str r18))]]⟩
      refine AW.seq ?_
      refine AW.reg hS [(2, .ref 0 0), (5, .ref 1 0), (32, .pv (.int .i64 (r18.length : Int))), (33, .pv (.int .i64 i21)), (34, .pv (.bool (decide (i21 < (r18.length : Int)))))] [.var [.pv (.str []), .pv (.str []), .nils], .var [.pv (.str w8), .pv (.str w11), .pv (.slice (List.map PV.str r18))]] ?_ ?_
      · simp -implicitDefEqProofs only [RUNS, qindex, Nat.reduceAdd, Nat.reduceLeDiff, Nat.reduceSub, reduceIte, Nat.reduceEqDiff, Nat.reduceLT, reduceCtorEq, Nat.reduceMul, if_true, if_false, eq_self, ne_eq, env_bT, T_3, P30_eq, User.pv_eq]
      refine AW.seq ?_
      refine AW.cond (b := decide (i21 < (r18.length : Int))) rfl (fun hb25 => ?_) (fun hb25 => ?_)
      · replace h := bif_t hb25 h
        refine AW.skip ?_
        refine AW.seq ?_
        refine AW.block ?_
        refine AW.seq ?_
        refine AW.reg hS [(2, .ref 0 0), (5, .ref 1 0), (6, .pv (.int .i64 i21)), (32, .pv (.int .i64 (r18.length : Int))), (33, .pv (.int .i64 i21))] [.var [.pv (.str []), .pv (.str []), .nils], .var [.pv (.str w8), .pv (.str w11), .pv (.slice (List.map PV.str r18))]] ?_ ?_
        · simp -implicitDefEqProofs only [RUNS, qindex, Nat.reduceAdd, Nat.reduceLeDiff, Nat.reduceSub, reduceIte, Nat.reduceEqDiff, Nat.reduceLT, reduceCtorEq, Nat.reduceMul, if_true, if_false, eq_self, ne_eq, env_bT, P30_eq, User.pv_eq]
        refine AW.seq ?_
        replace h := Option.bind_eq_some_iff.1 h; obtain ⟨w26, q27, h⟩ := h
        have f28 := lidx_f q27
        refine AW.reg hS [(2, .ref 0 0), (5, .ref 1 0), (32, .pv (.int .i64 (r18.length : Int))), (33, .pv (.int .i64 i21)), (41, .pv (.bool (decide (w26 = []))))] [.var [.pv (.str []), .pv (.str []), .nils], .var [.pv (.str w8), .pv (.str w11), .pv (.slice (List.map PV.str r18))]] ?_ ?_
        · simp -implicitDefEqProofs only [RUNS, qindex, Nat.reduceAdd, Nat.reduceLeDiff, Nat.reduceSub, reduceIte, Nat.reduceEqDiff, Nat.reduceLT, reduceCtorEq, Nat.reduceMul, if_true, if_false, eq_self, ne_eq, env_bT, T_9, T_30, T_32, P30_eq, User.pv_eq, f28.1, f28.2.1]
        refine AW.cond (b := decide (w26 = [])) rfl (fun hb29 => ?_) (fun hb29 => ?_)
        · replace h := bif_t hb29 h
          refine AW.seq ?_
          refine AW.reg hS [(2, .ref 0 0), (3, .pv (.bool false))] [.var [.pv (.str []), .pv (.str []), .pv (.slice (List.map PV.str []))], .var [.pv (.str w8), .pv (.str w11), .pv (.slice (List.map PV.str r18))]] ?_ ?_
          · simp -implicitDefEqProofs only [RUNS, qindex, Nat.reduceAdd, Nat.reduceLeDiff, Nat.reduceSub, reduceIte, Nat.reduceEqDiff, Nat.reduceLT, reduceCtorEq, Nat.reduceMul, if_true, if_false, eq_self, ne_eq, env_bT, T_32, P30_eq, User.pv_eq]
          refine AW.ret ?_
          cases h
          show finish _ _ _ _ _ = _
          first | rfl | (simp [finish, resOf, renArgs, toPV, selObjs, sl])
        · replace h := bif_f hb29 h
          refine AW.skip ?_
          refine AW.reg hS [(2, .ref 0 0), (5, .ref 1 0), (32, .pv (.int .i64 (r18.length : Int))), (33, .pv (.int .i64 (IntKind.wrap .i64 (i21 + 1))))] [.var [.pv (.str []), .pv (.str []), .nils], .var [.pv (.str w8), .pv (.str w11), .pv (.slice (List.map PV.str r18))]] ?_ ?_
          · simp -implicitDefEqProofs only [RUNS, qindex, Nat.reduceAdd, Nat.reduceLeDiff, Nat.reduceSub, reduceIte, Nat.reduceEqDiff, Nat.reduceLT, reduceCtorEq, Nat.reduceMul, if_true, if_false, eq_self, ne_eq, env_bT, T_3, P30_eq, User.pv_eq]
          exact ⟨(m24, IntKind.wrap .i64 (i21 + 1)), h, (Weak.norm (m := 2) (Nat.le_of_ble_eq_true rfl) ⟨rfl, rfl, rfl, rfl, trivial⟩ rfl rfl rfl), Nat.lt_succ_self _⟩
      · replace h := bif_f hb25 h
        refine AW.exit ?_
        refine AW.seq ?_
        refine AW.reg hS [(2, .ref 0 0), (3, .pv (.bool true))] [.var [.pv (.str w8), .pv (.str w11), .pv (.slice (List.map PV.str r18))], .var [.pv (.str w8), .pv (.str w11), .pv (.slice (List.map PV.str r18))]] ?_ ?_
        · simp -implicitDefEqProofs only [RUNS, qindex, Nat.reduceAdd, Nat.reduceLeDiff, Nat.reduceSub, reduceIte, Nat.reduceEqDiff, Nat.reduceLT, reduceCtorEq, Nat.reduceMul, if_true, if_false, eq_self, ne_eq, env_bT, T_32, P30_eq, User.pv_eq]
        refine AW.ret ?_
        cases h
        show finish _ _ _ _ _ = _
        first | rfl | (simp [finish, resOf, renArgs, toPV, selObjs, sl])

set_option maxHeartbeats 4000000 in
theorem g_F26 {O : Orc} (hS : Sound env O) (hpf : O.pf = pfn) (c_F39 : C_F39 O) (c_F40 : C_F40 O) (c_F17 : C_F17 O) (s1 : Str) (r2 : List User) (r3 : Int) (r4 : Int) (h : F26 s1 = some (r2, r3, r4)) : Good env 26 [.pv (.str s1)] [] [.pv (.slice (List.map User.pv r2)), .pv (.int .i64 r3), .pv (.int .i64 r4)] [] := by
  have pf_17 : O.pf 17 = true := by rw [hpf]; rfl
  have pf_39 : O.pf 39 = true := by rw [hpf]; rfl
  have pf_40 : O.pf 40 = true := by rw [hpf]; rfl
  refine Good.start (fn := Tryd.f26) (N := 50) rfl rfl rfl (by simp) [] _ rfl rfl ?_
  rw [F26] at h
  refine AW.seq ?_
  refine AW.reg hS [(0, .pv (.str s1))] [] ?_ ?_
  · simp -implicitDefEqProofs only [RUNS, qindex, Nat.reduceAdd, Nat.reduceLeDiff, Nat.reduceSub, reduceIte, Nat.reduceEqDiff, Nat.reduceLT, reduceCtorEq, Nat.reduceMul, if_true, if_false, eq_self, ne_eq, env_bT, P30_eq, User.pv_eq]
  refine AW.seq ?_
  replace h := Option.bind_eq_some_iff.1 h; obtain ⟨r5, q6, h⟩ := h
  have f7 := c_F39 s1 10 r5 q6
  try dsimp only at f7
  refine AW.reg hS [(5, .pv (.slice (List.map PV.str r5)))] [] ?_ ?_
  · simp -implicitDefEqProofs only [RUNS, qindex, Nat.reduceAdd, Nat.reduceLeDiff, Nat.reduceSub, reduceIte, Nat.reduceEqDiff, Nat.reduceLT, reduceCtorEq, Nat.reduceMul, if_true, if_false, eq_self, ne_eq, env_bT, T_5, T_9, P30_eq, User.pv_eq, pf_39, f7]
  refine AW.seq ?_
  refine AW.reg hS [(5, .pv (.slice (List.map PV.str r5))), (6, .pv (.int .i64 (IntKind.wrap .i64 ((r5.length : Int) - 1))))] [] ?_ ?_
  · simp -implicitDefEqProofs only [RUNS, qindex, Nat.reduceAdd, Nat.reduceLeDiff, Nat.reduceSub, reduceIte, Nat.reduceEqDiff, Nat.reduceLT, reduceCtorEq, Nat.reduceMul, if_true, if_false, eq_self, ne_eq, env_bT, T_3, T_9, T_30, P30_eq, User.pv_eq]
  refine AW.seq ?_
  refine AW.reg hS [(5, .pv (.slice (List.map PV.str r5))), (6, .pv (.int .i64 (IntKind.wrap .i64 ((r5.length : Int) - 1)))), (7, .nils)] [] ?_ ?_
  · simp -implicitDefEqProofs only [RUNS, qindex, Nat.reduceAdd, Nat.reduceLeDiff, Nat.reduceSub, reduceIte, Nat.reduceEqDiff, Nat.reduceLT, reduceCtorEq, Nat.reduceMul, if_true, if_false, eq_self, ne_eq, env_bT, P30_eq, User.pv_eq]
  refine AW.weak (Weak.own 7 32 3 (by decide) rfl) ?_
  refine AW.weak (Weak.slots (L := [(5, .pv (.slice (List.map PV.str r5))), (6, .pv (.int .i64 (IntKind.wrap .i64 ((r5.length : Int) - 1)))), (7, .vec 0 (List.length ([] : List User)))]) ⟨rfl, rfl, rfl, trivial⟩) ?_
  refine AW.seq ?_
  refine AW.seq ?_
  refine AW.reg hS [(5, .pv (.slice (List.map PV.str r5))), (6, .pv (.int .i64 (IntKind.wrap .i64 ((r5.length : Int) - 1)))), (7, .vec 0 (List.length ([] : List User))), (8, .pv (.int .i64 0))] [.row 32 3 (List.map User.pv ([] : List User)) true] ?_ ?_
  · simp -implicitDefEqProofs only [RUNS, qindex, Nat.reduceAdd, Nat.reduceLeDiff, Nat.reduceSub, reduceIte, Nat.reduceEqDiff, Nat.reduceLT, reduceCtorEq, Nat.reduceMul, if_true, if_false, eq_self, ne_eq, env_bT, P30_eq, User.pv_eq]
  refine AW.block ?_
  refine AW.weak (Weak.slots (L := [(5, .pv (.slice (List.map PV.str r5))), (6, .pv (.int .i64 (IntKind.wrap .i64 ((r5.length : Int) - 1)))), (7, .vec 0 (List.length ([] : List User))), (8, .pv (.int .i64 0))]) ⟨rfl, rfl, rfl, rfl, trivial⟩) ?_
  refine AW.loopI (α := Nat × Int × (List User)) (fun (_, i8, l9) => ⟨sl [(5, .pv (.slice (List.map PV.str r5))), (6, .pv (.int .i64 (IntKind.wrap .i64 ((r5.length : Int) - 1)))), (7, .vec 0 (List.length l9)), (8, .pv (.int .i64 i8))], 50, [.row 32 3 (List.map User.pv l9) true]⟩) (fun x => iter (F26_b1 r5) x.1 x.2 = some (r2, r3, r4)) (fun x => x.1) (BIG, (0, ([] : List User))) h ?_
  clear h
  intro ⟨n33, i8, l9⟩ h
  replace h := iter_some h; obtain ⟨m12, rfl, h⟩ := h
  rw [F26_b1] at h
  try dsimp only at h
  show AW _ _ _ _ ⟨sl [(5, .pv (.slice (List.map PV.str r5))), (6, .pv (.int .i64 (IntKind.wrap .i64 ((r5.length : Int) - 1)))), (7, .vec 0 (List.length l9)), (8, .pv (.int .i64 i8))], 50, [.row 32 3 (List.map User.pv l9) true]⟩
  refine AW.seq ?_
  refine AW.seq ?_
  refine AW.reg hS [(5, .pv (.slice (List.map PV.str r5))), (6, .pv (.int .i64 (IntKind.wrap .i64 ((r5.length : Int) - 1)))), (7, .vec 0 (List.length l9)), (8, .pv (.int .i64 i8)), (19, .pv (.bool (decide (i8 < IntKind.wrap .i64 ((r5.length : Int) - 1)))))] [.row 32 3 (List.map User.pv l9) true] ?_ ?_
  · simp -implicitDefEqProofs only [RUNS, qindex, Nat.reduceAdd, Nat.reduceLeDiff, Nat.reduceSub, reduceIte, Nat.reduceEqDiff, Nat.reduceLT, reduceCtorEq, Nat.reduceMul, if_true, if_false, eq_self, ne_eq, env_bT, T_3, P30_eq, User.pv_eq]
  refine AW.cond (b := decide (i8 < IntKind.wrap .i64 ((r5.length : Int) - 1))) rfl (fun hb13 => ?_) (fun hb13 => ?_)
  · replace h := bif_t hb13 h
    refine AW.skip ?_
    refine AW.seq ?_
    refine AW.block ?_
    refine AW.seq ?_
    replace h := Option.bind_eq_some_iff.1 h; obtain ⟨w14, q15, h⟩ := h
    have f16 := lidx_f q15
    replace h := Option.bind_eq_some_iff.1 h; obtain ⟨⟨r17, r18⟩, q19, h⟩ := h
    dsimp only at h
    have f20 := c_F40 w14 r17 r18 q19
    try dsimp only at f20
    refine AW.reg hS [(5, .pv (.slice (List.map PV.str r5))), (6, .pv (.int .i64 (IntKind.wrap .i64 ((r5.length : Int) - 1)))), (7, .vec 0 (List.length l9)), (8, .pv (.int .i64 i8)), (9, .ref 1 0), (10, .pv (.bool r18))] [.row 32 3 (List.map User.pv l9) true, .var [.pv (.str r17.name_), .pv (.str r17.leader_), .pv (.slice (List.map PV.str r17.members_))]] ?_ ?_
    · simp -implicitDefEqProofs only [RUNS, qindex, Nat.reduceAdd, Nat.reduceLeDiff, Nat.reduceSub, reduceIte, Nat.reduceEqDiff, Nat.reduceLT, reduceCtorEq, Nat.reduceMul, if_true, if_false, eq_self, ne_eq, env_bT, T_9, T_30, T_32, P30_eq, User.pv_eq, f16.1, f16.2.1, pf_40, f20]
    refine AW.seq ?_
    refine AW.seq ?_
    refine AW.reg hS [(5, .pv (.slice (List.map PV.str r5))), (6, .pv (.int .i64 (IntKind.wrap .i64 ((r5.length : Int) - 1)))), (7, .vec 0 (List.length l9)), (8, .pv (.int .i64 i8)), (9, .ref 1 0), (31, .pv (.bool (!r18)))] [.row 32 3 (List.map User.pv l9) true, .var [.pv (.str r17.name_), .pv (.str r17.leader_), .pv (.slice (List.map PV.str r17.members_))]] ?_ ?_
    · simp -implicitDefEqProofs only [RUNS, qindex, Nat.reduceAdd, Nat.reduceLeDiff, Nat.reduceSub, reduceIte, Nat.reduceEqDiff, Nat.reduceLT, reduceCtorEq, Nat.reduceMul, if_true, if_false, eq_self, ne_eq, env_bT, P30_eq, User.pv_eq]
    refine AW.cond (b := !r18) rfl (fun hb21 => ?_) (fun hb21 => ?_)
    · replace h := bif_t hb21 h
      refine AW.seq ?_
      refine AW.reg hS [(2, .nils), (3, .pv (.int .i64 i8)), (4, .pv (.int .i64 2))] [.row 32 3 (List.map User.pv l9) true, .var [.pv (.str r17.name_), .pv (.str r17.leader_), .pv (.slice (List.map PV.str r17.members_))]] ?_ ?_
      · simp -implicitDefEqProofs only [RUNS, qindex, Nat.reduceAdd, Nat.reduceLeDiff, Nat.reduceSub, reduceIte, Nat.reduceEqDiff, Nat.reduceLT, reduceCtorEq, Nat.reduceMul, if_true, if_false, eq_self, ne_eq, env_bT, P30_eq, User.pv_eq]
      refine AW.ret ?_
      cases h
      show finish _ _ _ _ _ = _
      first | rfl | (simp [finish, resOf, renArgs, toPV, selObjs, sl])
    · replace h := bif_f hb21 h
      refine AW.skip ?_
      replace h := Option.bind_eq_some_iff.1 h; obtain ⟨out22, q23, h⟩ := h
      have f24 := appO_f q23
      try simp only [List.length_cons, List.length_nil, Nat.zero_add, Nat.reduceAdd, Nat.reduceLeDiff, Nat.add_zero, Nat.reduceMul] at f24
      refine AW.reg hS [(5, .pv (.slice (List.map PV.str r5))), (6, .pv (.int .i64 (IntKind.wrap .i64 ((r5.length : Int) - 1)))), (7, .vec 0 (List.length out22)), (8, .pv (.int .i64 i8))] [.row 32 3 (List.map User.pv out22) true, .var [.pv (.str r17.name_), .pv (.str r17.leader_), .pv (.slice (List.map PV.str r17.members_))]] ?_ ?_
      · simp -implicitDefEqProofs only [RUNS, qindex, Nat.reduceAdd, Nat.reduceLeDiff, Nat.reduceSub, reduceIte, Nat.reduceEqDiff, Nat.reduceLT, reduceCtorEq, Nat.reduceMul, if_true, if_false, eq_self, ne_eq, env_bT, T_24, T_32, P30_eq, User.pv_eq, f24.1, f24.2, User.all]
      refine AW.reg hS [(5, .pv (.slice (List.map PV.str r5))), (6, .pv (.int .i64 (IntKind.wrap .i64 ((r5.length : Int) - 1)))), (7, .vec 0 (List.length out22)), (8, .pv (.int .i64 (IntKind.wrap .i64 (i8 + 1))))] [.row 32 3 (List.map User.pv out22) true, .var [.pv (.str r17.name_), .pv (.str r17.leader_), .pv (.slice (List.map PV.str r17.members_))]] ?_ ?_
      · simp -implicitDefEqProofs only [RUNS, qindex, Nat.reduceAdd, Nat.reduceLeDiff, Nat.reduceSub, reduceIte, Nat.reduceEqDiff, Nat.reduceLT, reduceCtorEq, Nat.reduceMul, if_true, if_false, eq_self, ne_eq, env_bT, T_3, P30_eq, User.pv_eq]
      exact ⟨(m12, (IntKind.wrap .i64 (i8 + 1), out22)), h, (Weak.norm (m := 1) (Nat.le_of_ble_eq_true rfl) ⟨rfl, rfl, rfl, rfl, trivial⟩ rfl rfl rfl), Nat.lt_succ_self _⟩
  · replace h := bif_f hb13 h
    refine AW.exit ?_
    refine AW.seq ?_
    refine AW.seq ?_
    replace h := Option.bind_eq_some_iff.1 h; obtain ⟨w25, q26, h⟩ := h
    have f27 := lidx_f q26
    refine AW.reg hS [(6, .pv (.int .i64 (IntKind.wrap .i64 ((r5.length : Int) - 1)))), (7, .vec 0 (List.length l9)), (41, .pv (.bool (!decide (w25 = []))))] [.row 32 3 (List.map User.pv l9) true] ?_ ?_
    · simp -implicitDefEqProofs only [RUNS, qindex, Nat.reduceAdd, Nat.reduceLeDiff, Nat.reduceSub, reduceIte, Nat.reduceEqDiff, Nat.reduceLT, reduceCtorEq, Nat.reduceMul, if_true, if_false, eq_self, ne_eq, env_bT, T_9, T_30, P30_eq, User.pv_eq, f27.1, f27.2.1]
    refine AW.cond (b := !decide (w25 = [])) rfl (fun hb28 => ?_) (fun hb28 => ?_)
    · replace h := bif_t hb28 h
      refine AW.seq ?_
      refine AW.reg hS [(2, .nils), (3, .pv (.int .i64 (IntKind.wrap .i64 ((r5.length : Int) - 1)))), (4, .pv (.int .i64 2))] [.row 32 3 (List.map User.pv l9) true] ?_ ?_
      · simp -implicitDefEqProofs only [RUNS, qindex, Nat.reduceAdd, Nat.reduceLeDiff, Nat.reduceSub, reduceIte, Nat.reduceEqDiff, Nat.reduceLT, reduceCtorEq, Nat.reduceMul, if_true, if_false, eq_self, ne_eq, env_bT, P30_eq, User.pv_eq]
      refine AW.ret ?_
      cases h
      show finish _ _ _ _ _ = _
      first | rfl | (simp [finish, resOf, renArgs, toPV, selObjs, sl])
    · replace h := bif_f hb28 h
      refine AW.skip ?_
      refine AW.seq ?_
      refine AW.seq ?_
      replace h := Option.bind_eq_some_iff.1 h; obtain ⟨r29, q30, h⟩ := h
      have f31 := c_F17 l9 r29 q30
      try dsimp only at f31
      refine AW.reg hS [(6, .pv (.int .i64 (IntKind.wrap .i64 ((r5.length : Int) - 1)))), (7, .vec 0 (List.length l9)), (11, .pv (.int .i64 r29))] [.row 32 3 (List.map User.pv l9) true] ?_ ?_
      · simp -implicitDefEqProofs only [RUNS, qindex, Nat.reduceAdd, Nat.reduceLeDiff, Nat.reduceSub, reduceIte, Nat.reduceEqDiff, Nat.reduceLT, reduceCtorEq, Nat.reduceMul, if_true, if_false, eq_self, ne_eq, env_bT, T_24, T_32, P30_eq, User.pv_eq, pf_17, f31]
      refine AW.seq ?_
      refine AW.reg hS [(6, .pv (.int .i64 (IntKind.wrap .i64 ((r5.length : Int) - 1)))), (7, .vec 0 (List.length l9)), (11, .pv (.int .i64 r29)), (46, .pv (.bool (!decide (r29 = 0))))] [.row 32 3 (List.map User.pv l9) true] ?_ ?_
      · simp -implicitDefEqProofs only [RUNS, qindex, Nat.reduceAdd, Nat.reduceLeDiff, Nat.reduceSub, reduceIte, Nat.reduceEqDiff, Nat.reduceLT, reduceCtorEq, Nat.reduceMul, if_true, if_false, eq_self, ne_eq, env_bT, T_26, P30_eq, User.pv_eq]
      refine AW.cond (b := !decide (r29 = 0)) rfl (fun hb32 => ?_) (fun hb32 => ?_)
      · replace h := bif_t hb32 h
        refine AW.seq ?_
        refine AW.reg hS [(2, .nils), (3, .pv (.int .i64 (IntKind.wrap .i64 ((r5.length : Int) - 1)))), (4, .pv (.int .i64 r29))] [.row 32 3 (List.map User.pv l9) true] ?_ ?_
        · simp -implicitDefEqProofs only [RUNS, qindex, Nat.reduceAdd, Nat.reduceLeDiff, Nat.reduceSub, reduceIte, Nat.reduceEqDiff, Nat.reduceLT, reduceCtorEq, Nat.reduceMul, if_true, if_false, eq_self, ne_eq, env_bT, P30_eq, User.pv_eq]
        refine AW.ret ?_
        cases h
        show finish _ _ _ _ _ = _
        first | rfl | (simp [finish, resOf, renArgs, toPV, selObjs, sl])
      · replace h := bif_f hb32 h
        refine AW.skip ?_
        refine AW.seq ?_
        refine AW.reg hS [(2, .vec 0 (List.length l9)), (3, .pv (.int .i64 0)), (4, .pv (.int .i64 0))] [.row 32 3 (List.map User.pv l9) true] ?_ ?_
        · simp -implicitDefEqProofs only [RUNS, qindex, Nat.reduceAdd, Nat.reduceLeDiff, Nat.reduceSub, reduceIte, Nat.reduceEqDiff, Nat.reduceLT, reduceCtorEq, Nat.reduceMul, if_true, if_false, eq_self, ne_eq, env_bT, P30_eq, User.pv_eq]
        refine AW.ret ?_
        cases h
        show finish _ _ _ _ _ = _
        first | rfl | (simp [finish, resOf, renArgs, toPV, selObjs, sl])

set_option maxHeartbeats 4000000 in
theorem g_F6 {O : Orc} (hS : Sound env O) (hpf : O.pf = pfn) (c_F10 : C_F10 O) (c_F25 : C_F25 O) (c_F26 : C_F26 O) (c_F27 : C_F27 O) (s1 : Str) (r2 : Bool) (h : F6 s1 = some r2) : Good env 6 [.pv (.str s1)] [] [.pv (.bool r2)] [] := by
  have pf_10 : O.pf 10 = true := by rw [hpf]; rfl
  have pf_25 : O.pf 25 = true := by rw [hpf]; rfl
  have pf_26 : O.pf 26 = true := by rw [hpf]; rfl
  have pf_27 : O.pf 27 = true := by rw [hpf]; rfl
  refine Good.start (fn := Tryd.f6) (N := 41) rfl rfl rfl (by simp) [] _ rfl rfl ?_
  rw [F6] at h
  refine AW.seq ?_
  refine AW.reg hS [(0, .pv (.str s1))] [] ?_ ?_
  · simp -implicitDefEqProofs only [RUNS, qindex, Nat.reduceAdd, Nat.reduceLeDiff, Nat.reduceSub, reduceIte, Nat.reduceEqDiff, Nat.reduceLT, reduceCtorEq, Nat.reduceMul, if_true, if_false, eq_self, ne_eq, env_bT, P30_eq, User.pv_eq]
  refine AW.seq ?_
  refine AW.seq ?_
  refine AW.reg hS [(0, .pv (.str s1)), (11, .pv (.bool (decide (3000 < (s1.length : Int)))))] [] ?_ ?_
  · simp -implicitDefEqProofs only [RUNS, qindex, Nat.reduceAdd, Nat.reduceLeDiff, Nat.reduceSub, reduceIte, Nat.reduceEqDiff, Nat.reduceLT, reduceCtorEq, Nat.reduceMul, if_true, if_false, eq_self, ne_eq, env_bT, T_3, T_9, P30_eq, User.pv_eq]
  refine AW.cond (b := decide (3000 < (s1.length : Int))) rfl (fun hb3 => ?_) (fun hb3 => ?_)
  · replace h := bif_t hb3 h
    refine AW.seq ?_
    replace h := Option.bind_eq_some_iff.1 h; obtain ⟨r4, q5, h⟩ := h
    have f6 := c_F10 r4 q5
    try dsimp only at f6
    refine AW.reg hS [(2, .pv (.bool r4))] [] ?_ ?_
    · simp -implicitDefEqProofs only [RUNS, qindex, Nat.reduceAdd, Nat.reduceLeDiff, Nat.reduceSub, reduceIte, Nat.reduceEqDiff, Nat.reduceLT, reduceCtorEq, Nat.reduceMul, if_true, if_false, eq_self, ne_eq, env_bT, P30_eq, User.pv_eq, pf_10, f6]
    refine AW.ret ?_
    cases h
    show finish _ _ _ _ _ = _
    first | rfl | (simp [finish, resOf, renArgs, toPV, selObjs, sl])
  · replace h := bif_f hb3 h
    refine AW.skip ?_
    refine AW.seq ?_
    replace h := Option.bind_eq_some_iff.1 h; obtain ⟨⟨r7, r8, r9⟩, q10, h⟩ := h
    dsimp only at h
    have f11 := c_F25 s1 r7 r8 r9 q10
    try dsimp only at f11
    refine AW.reg hS [(0, .pv (.str s1)), (3, .pv (.slice (List.map User.pv r7))), (4, .pv (.int .i64 r8)), (5, .pv (.int .i64 r9))] [] ?_ ?_
    · simp -implicitDefEqProofs only [RUNS, qindex, Nat.reduceAdd, Nat.reduceLeDiff, Nat.reduceSub, reduceIte, Nat.reduceEqDiff, Nat.reduceLT, reduceCtorEq, Nat.reduceMul, if_true, if_false, eq_self, ne_eq, env_bT, T_9, P30_eq, User.pv_eq, pf_25, f11]
    refine AW.seq ?_
    replace h := Option.bind_eq_some_iff.1 h; obtain ⟨⟨r12, r13, r14⟩, q15, h⟩ := h
    dsimp only at h
    have f16 := c_F26 s1 r12 r13 r14 q15
    try dsimp only at f16
    refine AW.reg hS [(3, .pv (.slice (List.map User.pv r7))), (4, .pv (.int .i64 r8)), (5, .pv (.int .i64 r9)), (6, .pv (.slice (List.map User.pv r12))), (7, .pv (.int .i64 r13)), (8, .pv (.int .i64 r14))] [] ?_ ?_
    · simp -implicitDefEqProofs only [RUNS, qindex, Nat.reduceAdd, Nat.reduceLeDiff, Nat.reduceSub, reduceIte, Nat.reduceEqDiff, Nat.reduceLT, reduceCtorEq, Nat.reduceMul, if_true, if_false, eq_self, ne_eq, env_bT, T_9, P30_eq, User.pv_eq, pf_26, f16]
    refine AW.seq ?_
    replace h := Option.bind_eq_some_iff.1 h; obtain ⟨r17, q18, h⟩ := h
    have f19 := c_F27 r7 r12 r17 q18
    try dsimp only at f19
    replace h := Option.bind_eq_some_iff.1 h; obtain ⟨r20, q21, h⟩ := h
    have f22 := fun hg => c_F10 r20 (guardO_t q21 hg)
    try dsimp only at f22
    refine AW.reg hS [(2, .pv (.bool (((r17 && decide (r8 = r13)) && decide (r9 = r14)) && r20)))] [] ?_ ?_
    · clear h
      (simp -implicitDefEqProofs only [RUNS, qindex, Nat.reduceAdd, Nat.reduceLeDiff, Nat.reduceSub, reduceIte, Nat.reduceEqDiff, Nat.reduceLT, reduceCtorEq, Nat.reduceMul, if_true, if_false, eq_self, ne_eq, env_bT, T_3, T_24, T_26, T_32, P30_eq, User.pv_eq, pf_27, f19, pf_10, f22]); repeat' (split <;> rename_i hb <;> (try simp only [HBS, ge_iff_le, gt_iff_lt] at hb) <;> simp -implicitDefEqProofs only [RUNS, qindex, Nat.reduceAdd, Nat.reduceLeDiff, Nat.reduceSub, reduceIte, Nat.reduceEqDiff, Nat.reduceLT, reduceCtorEq, Nat.reduceMul, if_true, if_false, eq_self, ne_eq, env_bT, T_3, T_24, T_26, T_32, P30_eq, User.pv_eq, pf_27, f19, pf_10, f22, *, decide_true, decide_false, Decidable.not_not, not_false_eq_true, not_true_eq_false])
      all_goals (first | (simp only [BOOLS]; done) | (simp [*]; done) | ((try simp only [CLOS, beq_iff_eq, bne_iff_ne, ne_eq] at *) <;> omega) | (simp_all; done) | (simp_all <;> omega))
    refine AW.ret ?_
    cases h
    show finish _ _ _ _ _ = _
    first | rfl | (simp [finish, resOf, renArgs, toPV, selObjs, sl])

set_option maxHeartbeats 4000000 in
theorem g_F7 {O : Orc} (hS : Sound env O) (hpf : O.pf = pfn) (c_F13 : C_F13 O) (c_F10 : C_F10 O) (c_F14 : C_F14 O) (c_F16 : C_F16 O) (c_F25 : C_F25 O) (c_F27 : C_F27 O) (l1 : List User) (r2 : Bool) (h : F7 l1 = some r2) : Good env 7 [.pv (.slice (List.map User.pv l1))] [] [.pv (.bool r2)] [] := by
  have pf_10 : O.pf 10 = true := by rw [hpf]; rfl
  have pf_13 : O.pf 13 = true := by rw [hpf]; rfl
  have pf_14 : O.pf 14 = true := by rw [hpf]; rfl
  have pf_16 : O.pf 16 = true := by rw [hpf]; rfl
  have pf_25 : O.pf 25 = true := by rw [hpf]; rfl
  have pf_27 : O.pf 27 = true := by rw [hpf]; rfl
  refine Good.start (fn := Tryd.f7) (N := 50) rfl rfl rfl (by simp) [] _ rfl rfl ?_
  rw [F7] at h
  refine AW.seq ?_
  refine AW.reg hS [(0, .pv (.slice (List.map User.pv l1)))] [] ?_ ?_
  · simp -implicitDefEqProofs only [RUNS, qindex, Nat.reduceAdd, Nat.reduceLeDiff, Nat.reduceSub, reduceIte, Nat.reduceEqDiff, Nat.reduceLT, reduceCtorEq, Nat.reduceMul, if_true, if_false, eq_self, ne_eq, env_bT, P30_eq, User.pv_eq]
  refine AW.seq ?_
  refine AW.seq ?_
  replace h := Option.bind_eq_some_iff.1 h; obtain ⟨r3, q4, h⟩ := h
  have f5 := c_F13 l1 r3 q4
  try dsimp only at f5
  refine AW.reg hS [(0, .pv (.slice (List.map User.pv l1))), (10, .pv (.bool (!r3)))] [] ?_ ?_
  · simp -implicitDefEqProofs only [RUNS, qindex, Nat.reduceAdd, Nat.reduceLeDiff, Nat.reduceSub, reduceIte, Nat.reduceEqDiff, Nat.reduceLT, reduceCtorEq, Nat.reduceMul, if_true, if_false, eq_self, ne_eq, env_bT, T_24, T_32, P30_eq, User.pv_eq, pf_13, f5]
  refine AW.cond (b := !r3) rfl (fun hb6 => ?_) (fun hb6 => ?_)
  · replace h := bif_t hb6 h
    refine AW.seq ?_
    replace h := Option.bind_eq_some_iff.1 h; obtain ⟨r7, q8, h⟩ := h
    have f9 := c_F10 r7 q8
    try dsimp only at f9
    refine AW.reg hS [(2, .pv (.bool r7))] [] ?_ ?_
    · simp -implicitDefEqProofs only [RUNS, qindex, Nat.reduceAdd, Nat.reduceLeDiff, Nat.reduceSub, reduceIte, Nat.reduceEqDiff, Nat.reduceLT, reduceCtorEq, Nat.reduceMul, if_true, if_false, eq_self, ne_eq, env_bT, P30_eq, User.pv_eq, pf_10, f9]
    refine AW.ret ?_
    cases h
    show finish _ _ _ _ _ = _
    first | rfl | (simp [finish, resOf, renArgs, toPV, selObjs, sl])
  · replace h := bif_f hb6 h
    refine AW.skip ?_
    refine AW.seq ?_
    replace h := Option.bind_eq_some_iff.1 h; obtain ⟨⟨r10, r11⟩, q12, h⟩ := h
    dsimp only at h
    have f13 := c_F14 l1 r10 r11 q12
    try dsimp only at f13
    refine AW.reg hS [(0, .pv (.slice (List.map User.pv l1))), (3, .pv (.str r10)), (4, .pv (.int .i64 r11))] [] ?_ ?_
    · simp -implicitDefEqProofs only [RUNS, qindex, Nat.reduceAdd, Nat.reduceLeDiff, Nat.reduceSub, reduceIte, Nat.reduceEqDiff, Nat.reduceLT, reduceCtorEq, Nat.reduceMul, if_true, if_false, eq_self, ne_eq, env_bT, T_24, T_32, P30_eq, User.pv_eq, pf_14, f13]
    refine AW.seq ?_
    refine AW.seq ?_
    refine AW.reg hS [(0, .pv (.slice (List.map User.pv l1))), (3, .pv (.str r10)), (4, .pv (.int .i64 r11)), (18, .pv (.bool (!decide (r11 = 0))))] [] ?_ ?_
    · simp -implicitDefEqProofs only [RUNS, qindex, Nat.reduceAdd, Nat.reduceLeDiff, Nat.reduceSub, reduceIte, Nat.reduceEqDiff, Nat.reduceLT, reduceCtorEq, Nat.reduceMul, if_true, if_false, eq_self, ne_eq, env_bT, T_26, P30_eq, User.pv_eq]
    refine AW.cond (b := !decide (r11 = 0)) rfl (fun hb14 => ?_) (fun hb14 => ?_)
    · replace h := bif_t hb14 h
      refine AW.seq ?_
      replace h := Option.bind_eq_some_iff.1 h; obtain ⟨r15, q16, h⟩ := h
      have f17 := fun hg => c_F16 l1 r15 (guardO_t q16 hg)
      try dsimp only at f17
      replace h := Option.bind_eq_some_iff.1 h; obtain ⟨r18, q19, h⟩ := h
      have f20 := fun hg => c_F10 r18 (guardO_t q19 hg)
      try dsimp only at f20
      refine AW.reg hS [(2, .pv (.bool ((decide (r10 = []) && decide (r11 = r15)) && r18)))] [] ?_ ?_
      · clear h
        (simp -implicitDefEqProofs only [RUNS, qindex, Nat.reduceAdd, Nat.reduceLeDiff, Nat.reduceSub, reduceIte, Nat.reduceEqDiff, Nat.reduceLT, reduceCtorEq, Nat.reduceMul, if_true, if_false, eq_self, ne_eq, env_bT, T_9, T_24, T_26, T_32, P30_eq, User.pv_eq, pf_16, f17, pf_10, f20]); repeat' (split <;> rename_i hb <;> (try simp only [HBS, ge_iff_le, gt_iff_lt] at hb) <;> simp -implicitDefEqProofs only [RUNS, qindex, Nat.reduceAdd, Nat.reduceLeDiff, Nat.reduceSub, reduceIte, Nat.reduceEqDiff, Nat.reduceLT, reduceCtorEq, Nat.reduceMul, if_true, if_false, eq_self, ne_eq, env_bT, T_9, T_24, T_26, T_32, P30_eq, User.pv_eq, pf_16, f17, pf_10, f20, *, decide_true, decide_false, Decidable.not_not, not_false_eq_true, not_true_eq_false])
        all_goals (first | (simp only [BOOLS]; done) | (simp [*]; done) | ((try simp only [CLOS, beq_iff_eq, bne_iff_ne, ne_eq] at *) <;> omega) | (simp_all; done) | (simp_all <;> omega))
      refine AW.ret ?_
      cases h
      show finish _ _ _ _ _ = _
      first | rfl | (simp [finish, resOf, renArgs, toPV, selObjs, sl])
    · replace h := bif_f hb14 h
      refine AW.skip ?_
      refine AW.seq ?_
      replace h := Option.bind_eq_some_iff.1 h; obtain ⟨⟨r21, r22, r23⟩, q24, h⟩ := h
      dsimp only at h
      have f25 := c_F25 r10 r21 r22 r23 q24
      try dsimp only at f25
      refine AW.reg hS [(0, .pv (.slice (List.map User.pv l1))), (5, .pv (.slice (List.map User.pv r21))), (6, .pv (.int .i64 r22)), (7, .pv (.int .i64 r23))] [] ?_ ?_
      · simp -implicitDefEqProofs only [RUNS, qindex, Nat.reduceAdd, Nat.reduceLeDiff, Nat.reduceSub, reduceIte, Nat.reduceEqDiff, Nat.reduceLT, reduceCtorEq, Nat.reduceMul, if_true, if_false, eq_self, ne_eq, env_bT, T_9, P30_eq, User.pv_eq, pf_25, f25]
      refine AW.seq ?_
      replace h := Option.bind_eq_some_iff.1 h; obtain ⟨r26, q27, h⟩ := h
      have f28 := c_F27 l1 r21 r26 q27
      try dsimp only at f28
      replace h := Option.bind_eq_some_iff.1 h; obtain ⟨r29, q30, h⟩ := h
      have f31 := fun hg => c_F10 r29 (guardO_t q30 hg)
      try dsimp only at f31
      refine AW.reg hS [(2, .pv (.bool (((r26 && decide (r22 = 0)) && decide (r23 = 0)) && r29)))] [] ?_ ?_
      · clear h
        (simp -implicitDefEqProofs only [RUNS, qindex, Nat.reduceAdd, Nat.reduceLeDiff, Nat.reduceSub, reduceIte, Nat.reduceEqDiff, Nat.reduceLT, reduceCtorEq, Nat.reduceMul, if_true, if_false, eq_self, ne_eq, env_bT, T_3, T_24, T_26, T_32, P30_eq, User.pv_eq, pf_27, f28, pf_10, f31]); repeat' (split <;> rename_i hb <;> (try simp only [HBS, ge_iff_le, gt_iff_lt] at hb) <;> simp -implicitDefEqProofs only [RUNS, qindex, Nat.reduceAdd, Nat.reduceLeDiff, Nat.reduceSub, reduceIte, Nat.reduceEqDiff, Nat.reduceLT, reduceCtorEq, Nat.reduceMul, if_true, if_false, eq_self, ne_eq, env_bT, T_3, T_24, T_26, T_32, P30_eq, User.pv_eq, pf_27, f28, pf_10, f31, *, decide_true, decide_false, Decidable.not_not, not_false_eq_true, not_true_eq_false])
        all_goals (first | (simp only [BOOLS]; done) | (simp [*]; done) | ((try simp only [CLOS, beq_iff_eq, bne_iff_ne, ne_eq] at *) <;> omega) | (simp_all; done) | (simp_all <;> omega))
      refine AW.ret ?_
      cases h
      show finish _ _ _ _ _ = _
      first | rfl | (simp [finish, resOf, renArgs, toPV, selObjs, sl])

set_option maxHeartbeats 4000000 in
theorem g_F8 {O : Orc} (hS : Sound env O) (hpf : O.pf = pfn) (c_F10 : C_F10 O) (c_F25 : C_F25 O) (c_F14 : C_F14 O) (c_F16 : C_F16 O) (s1 : Str) (r2 : Bool) (h : F8 s1 = some r2) : Good env 8 [.pv (.str s1)] [] [.pv (.bool r2)] [] := by
  have pf_10 : O.pf 10 = true := by rw [hpf]; rfl
  have pf_14 : O.pf 14 = true := by rw [hpf]; rfl
  have pf_16 : O.pf 16 = true := by rw [hpf]; rfl
  have pf_25 : O.pf 25 = true := by rw [hpf]; rfl
  refine Good.start (fn := Tryd.f8) (N := 46) rfl rfl rfl (by simp) [] _ rfl rfl ?_
  rw [F8] at h
  refine AW.seq ?_
  refine AW.reg hS [(0, .pv (.str s1))] [] ?_ ?_
  · simp -implicitDefEqProofs only [RUNS, qindex, Nat.reduceAdd, Nat.reduceLeDiff, Nat.reduceSub, reduceIte, Nat.reduceEqDiff, Nat.reduceLT, reduceCtorEq, Nat.reduceMul, if_true, if_false, eq_self, ne_eq, env_bT, P30_eq, User.pv_eq]
  refine AW.seq ?_
  refine AW.seq ?_
  refine AW.reg hS [(0, .pv (.str s1)), (10, .pv (.bool (decide (3000 < (s1.length : Int)))))] [] ?_ ?_
  · simp -implicitDefEqProofs only [RUNS, qindex, Nat.reduceAdd, Nat.reduceLeDiff, Nat.reduceSub, reduceIte, Nat.reduceEqDiff, Nat.reduceLT, reduceCtorEq, Nat.reduceMul, if_true, if_false, eq_self, ne_eq, env_bT, T_3, T_9, P30_eq, User.pv_eq]
  refine AW.cond (b := decide (3000 < (s1.length : Int))) rfl (fun hb3 => ?_) (fun hb3 => ?_)
  · replace h := bif_t hb3 h
    refine AW.seq ?_
    replace h := Option.bind_eq_some_iff.1 h; obtain ⟨r4, q5, h⟩ := h
    have f6 := c_F10 r4 q5
    try dsimp only at f6
    refine AW.reg hS [(2, .pv (.bool r4))] [] ?_ ?_
    · simp -implicitDefEqProofs only [RUNS, qindex, Nat.reduceAdd, Nat.reduceLeDiff, Nat.reduceSub, reduceIte, Nat.reduceEqDiff, Nat.reduceLT, reduceCtorEq, Nat.reduceMul, if_true, if_false, eq_self, ne_eq, env_bT, P30_eq, User.pv_eq, pf_10, f6]
    refine AW.ret ?_
    cases h
    show finish _ _ _ _ _ = _
    first | rfl | (simp [finish, resOf, renArgs, toPV, selObjs, sl])
  · replace h := bif_f hb3 h
    refine AW.skip ?_
    refine AW.seq ?_
    replace h := Option.bind_eq_some_iff.1 h; obtain ⟨⟨r7, r8, r9⟩, q10, h⟩ := h
    dsimp only at h
    have f11 := c_F25 s1 r7 r8 r9 q10
    try dsimp only at f11
    refine AW.reg hS [(0, .pv (.str s1)), (3, .pv (.slice (List.map User.pv r7))), (5, .pv (.int .i64 r9))] [] ?_ ?_
    · simp -implicitDefEqProofs only [RUNS, qindex, Nat.reduceAdd, Nat.reduceLeDiff, Nat.reduceSub, reduceIte, Nat.reduceEqDiff, Nat.reduceLT, reduceCtorEq, Nat.reduceMul, if_true, if_false, eq_self, ne_eq, env_bT, T_9, P30_eq, User.pv_eq, pf_25, f11]
    refine AW.seq ?_
    refine AW.seq ?_
    refine AW.reg hS [(0, .pv (.str s1)), (3, .pv (.slice (List.map User.pv r7))), (19, .pv (.bool (!decide (r9 = 0))))] [] ?_ ?_
    · simp -implicitDefEqProofs only [RUNS, qindex, Nat.reduceAdd, Nat.reduceLeDiff, Nat.reduceSub, reduceIte, Nat.reduceEqDiff, Nat.reduceLT, reduceCtorEq, Nat.reduceMul, if_true, if_false, eq_self, ne_eq, env_bT, T_26, P30_eq, User.pv_eq]
    refine AW.cond (b := !decide (r9 = 0)) rfl (fun hb12 => ?_) (fun hb12 => ?_)
    · replace h := bif_t hb12 h
      refine AW.seq ?_
      replace h := Option.bind_eq_some_iff.1 h; obtain ⟨r13, q14, h⟩ := h
      have f15 := fun hg => c_F10 r13 (guardO_t q14 hg)
      try dsimp only at f15
      refine AW.reg hS [(2, .pv (.bool (decide ((r7.length : Int) = 0) && r13)))] [] ?_ ?_
      · clear h
        (simp -implicitDefEqProofs only [RUNS, qindex, Nat.reduceAdd, Nat.reduceLeDiff, Nat.reduceSub, reduceIte, Nat.reduceEqDiff, Nat.reduceLT, reduceCtorEq, Nat.reduceMul, if_true, if_false, eq_self, ne_eq, env_bT, T_3, T_24, T_32, P30_eq, User.pv_eq, pf_10, f15]); repeat' (split <;> rename_i hb <;> (try simp only [HBS, ge_iff_le, gt_iff_lt] at hb) <;> simp -implicitDefEqProofs only [RUNS, qindex, Nat.reduceAdd, Nat.reduceLeDiff, Nat.reduceSub, reduceIte, Nat.reduceEqDiff, Nat.reduceLT, reduceCtorEq, Nat.reduceMul, if_true, if_false, eq_self, ne_eq, env_bT, T_3, T_24, T_32, P30_eq, User.pv_eq, pf_10, f15, *, decide_true, decide_false, Decidable.not_not, not_false_eq_true, not_true_eq_false])
        all_goals (first | (simp only [BOOLS]; done) | (simp [*]; done) | ((try simp only [CLOS, beq_iff_eq, bne_iff_ne, ne_eq] at *) <;> omega) | (simp_all; done) | (simp_all <;> omega))
      refine AW.ret ?_
      cases h
      show finish _ _ _ _ _ = _
      first | rfl | (simp [finish, resOf, renArgs, toPV, selObjs, sl])
    · replace h := bif_f hb12 h
      refine AW.skip ?_
      refine AW.seq ?_
      replace h := Option.bind_eq_some_iff.1 h; obtain ⟨⟨r16, r17⟩, q18, h⟩ := h
      dsimp only at h
      have f19 := c_F14 r7 r16 r17 q18
      try dsimp only at f19
      refine AW.reg hS [(0, .pv (.str s1)), (3, .pv (.slice (List.map User.pv r7))), (6, .pv (.str r16)), (7, .pv (.int .i64 r17))] [] ?_ ?_
      · simp -implicitDefEqProofs only [RUNS, qindex, Nat.reduceAdd, Nat.reduceLeDiff, Nat.reduceSub, reduceIte, Nat.reduceEqDiff, Nat.reduceLT, reduceCtorEq, Nat.reduceMul, if_true, if_false, eq_self, ne_eq, env_bT, T_24, T_32, P30_eq, User.pv_eq, pf_14, f19]
      refine AW.seq ?_
      replace h := Option.bind_eq_some_iff.1 h; obtain ⟨r20, q21, h⟩ := h
      have f22 := c_F16 r7 r20 q21
      try dsimp only at f22
      replace h := Option.bind_eq_some_iff.1 h; obtain ⟨r23, q24, h⟩ := h
      have f25 := fun hg => c_F10 r23 (guardO_t q24 hg)
      try dsimp only at f25
      refine AW.reg hS [(2, .pv (.bool (((decide (r20 = 0) && decide (r16 = s1)) && decide (r17 = 0)) && r23)))] [] ?_ ?_
      · clear h
        (simp -implicitDefEqProofs only [RUNS, qindex, Nat.reduceAdd, Nat.reduceLeDiff, Nat.reduceSub, reduceIte, Nat.reduceEqDiff, Nat.reduceLT, reduceCtorEq, Nat.reduceMul, if_true, if_false, eq_self, ne_eq, env_bT, T_9, T_24, T_26, T_32, P30_eq, User.pv_eq, pf_16, f22, pf_10, f25]); repeat' (split <;> rename_i hb <;> (try simp only [HBS, ge_iff_le, gt_iff_lt] at hb) <;> simp -implicitDefEqProofs only [RUNS, qindex, Nat.reduceAdd, Nat.reduceLeDiff, Nat.reduceSub, reduceIte, Nat.reduceEqDiff, Nat.reduceLT, reduceCtorEq, Nat.reduceMul, if_true, if_false, eq_self, ne_eq, env_bT, T_9, T_24, T_26, T_32, P30_eq, User.pv_eq, pf_16, f22, pf_10, f25, *, decide_true, decide_false, Decidable.not_not, not_false_eq_true, not_true_eq_false])
        all_goals (first | (simp only [BOOLS]; done) | (simp [*]; done) | ((try simp only [CLOS, beq_iff_eq, bne_iff_ne, ne_eq] at *) <;> omega) | (simp_all; done) | (simp_all <;> omega))
      refine AW.ret ?_
      cases h
      show finish _ _ _ _ _ = _
      first | rfl | (simp [finish, resOf, renArgs, toPV, selObjs, sl])

set_option maxHeartbeats 4000000 in
theorem g_F9 {O : Orc} (hS : Sound env O) (hpf : O.pf = pfn) (c_F13 : C_F13 O) (c_F16 : C_F16 O) (c_F10 : C_F10 O) (c_F23 : C_F23 O) (c_F21 : C_F21 O) (l1 : List User) (k2 : Int) (name3 : Str) (r4 : Bool) (h : F9 l1 k2 name3 = some r4) : Good env 9 [.pv (.slice (List.map User.pv l1)), .pv (.int .i64 k2), .pv (.str name3)] [] [.pv (.bool r4)] [] := by
  have pf_10 : O.pf 10 = true := by rw [hpf]; rfl
  have pf_13 : O.pf 13 = true := by rw [hpf]; rfl
  have pf_16 : O.pf 16 = true := by rw [hpf]; rfl
  have pf_21 : O.pf 21 = true := by rw [hpf]; rfl
  have pf_23 : O.pf 23 = true := by rw [hpf]; rfl
  refine Good.start (fn := Tryd.f9) (N := 71) rfl rfl rfl (by simp) [] _ rfl rfl ?_
  rw [F9] at h
  refine AW.seq ?_
  refine AW.reg hS [(0, .pv (.slice (List.map User.pv l1))), (1, .pv (.int .i64 k2)), (2, .pv (.str name3))] [] ?_ ?_
  · simp -implicitDefEqProofs only [RUNS, qindex, Nat.reduceAdd, Nat.reduceLeDiff, Nat.reduceSub, reduceIte, Nat.reduceEqDiff, Nat.reduceLT, reduceCtorEq, Nat.reduceMul, if_true, if_false, eq_self, ne_eq, env_bT, P30_eq, User.pv_eq]
  refine AW.seq ?_
  refine AW.seq ?_
  replace h := Option.bind_eq_some_iff.1 h; obtain ⟨r5, q6, h⟩ := h
  have f7 := c_F13 l1 r5 q6
  try dsimp only at f7
  replace h := Option.bind_eq_some_iff.1 h; obtain ⟨r8, q9, h⟩ := h
  have f10 := fun hg => c_F16 l1 r8 (guardO_t q9 hg)
  try dsimp only at f10
  refine AW.reg hS [(0, .pv (.slice (List.map User.pv l1))), (1, .pv (.int .i64 k2)), (2, .pv (.str name3)), (30, .pv (.bool ((((!r5 || decide (2000 < (name3.length : Int))) || decide (k2 < 0)) || decide ((l1.length : Int) ≤ k2)) || !decide (r8 = 0))))] [] ?_ ?_
  · clear h
    (simp -implicitDefEqProofs only [RUNS, qindex, Nat.reduceAdd, Nat.reduceLeDiff, Nat.reduceSub, reduceIte, Nat.reduceEqDiff, Nat.reduceLT, reduceCtorEq, Nat.reduceMul, if_true, if_false, eq_self, ne_eq, env_bT, T_3, T_9, T_24, T_26, T_32, P30_eq, User.pv_eq, pf_13, f7, pf_16, f10]); repeat' (split <;> rename_i hb <;> (try simp only [HBS, ge_iff_le, gt_iff_lt] at hb) <;> simp -implicitDefEqProofs only [RUNS, qindex, Nat.reduceAdd, Nat.reduceLeDiff, Nat.reduceSub, reduceIte, Nat.reduceEqDiff, Nat.reduceLT, reduceCtorEq, Nat.reduceMul, if_true, if_false, eq_self, ne_eq, env_bT, T_3, T_9, T_24, T_26, T_32, P30_eq, User.pv_eq, pf_13, f7, pf_16, f10, *, decide_true, decide_false, Decidable.not_not, not_false_eq_true, not_true_eq_false])
    all_goals (first | (simp only [BOOLS]; done) | (simp [*]; done) | ((try simp only [CLOS, beq_iff_eq, bne_iff_ne, ne_eq] at *) <;> omega) | (simp_all; done) | (simp_all <;> omega))
  refine AW.cond (b := ((((!r5 || decide (2000 < (name3.length : Int))) || decide (k2 < 0)) || decide ((l1.length : Int) ≤ k2)) || !decide (r8 = 0))) rfl (fun hb11 => ?_) (fun hb11 => ?_)
  · replace h := bif_t hb11 h
    refine AW.seq ?_
    replace h := Option.bind_eq_some_iff.1 h; obtain ⟨r12, q13, h⟩ := h
    have f14 := c_F10 r12 q13
    try dsimp only at f14
    refine AW.reg hS [(6, .pv (.bool r12))] [] ?_ ?_
    · simp -implicitDefEqProofs only [RUNS, qindex, Nat.reduceAdd, Nat.reduceLeDiff, Nat.reduceSub, reduceIte, Nat.reduceEqDiff, Nat.reduceLT, reduceCtorEq, Nat.reduceMul, if_true, if_false, eq_self, ne_eq, env_bT, P30_eq, User.pv_eq, pf_10, f14]
    refine AW.ret ?_
    cases h
    show finish _ _ _ _ _ = _
    first | rfl | (simp [finish, resOf, renArgs, toPV, selObjs, sl])
  · replace h := bif_f hb11 h
    refine AW.skip ?_
    refine AW.seq ?_
    replace h := Option.bind_eq_some_iff.1 h; obtain ⟨u15, q16, h⟩ := h
    have f17 := lidx_f q16
    replace h := Option.bind_eq_some_iff.1 h; obtain ⟨r18, q19, h⟩ := h
    have f20 := c_F23 l1 name3 u15.name_ r18 q19
    try dsimp only at f20
    refine AW.reg hS [(0, .pv (.slice (List.map User.pv l1))), (1, .pv (.int .i64 k2)), (2, .pv (.str name3)), (7, .pv (.bool r18))] [] ?_ ?_
    · simp -implicitDefEqProofs only [RUNS, qindex, Nat.reduceAdd, Nat.reduceLeDiff, Nat.reduceSub, reduceIte, Nat.reduceEqDiff, Nat.reduceLT, reduceCtorEq, Nat.reduceMul, if_true, if_false, eq_self, ne_eq, env_bT, T_9, T_24, T_32, P30_eq, User.pv_eq, f17.1, f17.2.1, pf_23, f20]
    refine AW.seq ?_
    refine AW.seq ?_
    refine AW.reg hS [(0, .pv (.slice (List.map User.pv l1))), (1, .pv (.int .i64 k2)), (2, .pv (.str name3)), (7, .pv (.bool r18)), (45, .pv (.bool (!decide (u15.leader_ = []))))] [] ?_ ?_
    · simp -implicitDefEqProofs only [RUNS, qindex, Nat.reduceAdd, Nat.reduceLeDiff, Nat.reduceSub, reduceIte, Nat.reduceEqDiff, Nat.reduceLT, reduceCtorEq, Nat.reduceMul, if_true, if_false, eq_self, ne_eq, env_bT, T_9, T_24, T_32, P30_eq, User.pv_eq, f17.1, f17.2.1]
    refine AW.cond (b := !decide (u15.leader_ = [])) rfl (fun hb21 => ?_) (fun hb21 => ?_)
    · replace h := bif_t hb21 h
      refine AW.seq ?_
      replace h := Option.bind_eq_some_iff.1 h; obtain ⟨r22, q23, h⟩ := h
      have f24 := fun hg => c_F10 r22 (guardO_t q23 hg)
      try dsimp only at f24
      refine AW.reg hS [(6, .pv (.bool ((r18 == (decide (name3 = u15.leader_))) && r22)))] [] ?_ ?_
      · clear h
        (simp -implicitDefEqProofs only [RUNS, qindex, Nat.reduceAdd, Nat.reduceLeDiff, Nat.reduceSub, reduceIte, Nat.reduceEqDiff, Nat.reduceLT, reduceCtorEq, Nat.reduceMul, if_true, if_false, eq_self, ne_eq, env_bT, T_4, T_9, T_24, T_32, P30_eq, User.pv_eq, f17.1, f17.2.1, isBoolT_4, pf_10, f24]); repeat' (split <;> rename_i hb <;> (try simp only [HBS, ge_iff_le, gt_iff_lt] at hb) <;> simp -implicitDefEqProofs only [RUNS, qindex, Nat.reduceAdd, Nat.reduceLeDiff, Nat.reduceSub, reduceIte, Nat.reduceEqDiff, Nat.reduceLT, reduceCtorEq, Nat.reduceMul, if_true, if_false, eq_self, ne_eq, env_bT, T_4, T_9, T_24, T_32, P30_eq, User.pv_eq, f17.1, f17.2.1, isBoolT_4, pf_10, f24, *, decide_true, decide_false, Decidable.not_not, not_false_eq_true, not_true_eq_false])
        all_goals (first | (simp only [BOOLS]; done) | (simp [*]; done) | ((try simp only [CLOS, beq_iff_eq, bne_iff_ne, ne_eq] at *) <;> omega) | (simp_all; done) | (simp_all <;> omega))
      refine AW.ret ?_
      cases h
      show finish _ _ _ _ _ = _
      first | rfl | (simp [finish, resOf, renArgs, toPV, selObjs, sl])
    · replace h := bif_f hb21 h
      refine AW.skip ?_
      refine AW.seq ?_
      replace h := Option.bind_eq_some_iff.1 h; obtain ⟨r25, q26, h⟩ := h
      have f27 := c_F21 l1 name3 u15.name_ r25 q26
      try dsimp only at f27
      replace h := Option.bind_eq_some_iff.1 h; obtain ⟨r28, q29, h⟩ := h
      have f30 := fun hg => c_F10 r28 (guardO_t q29 hg)
      try dsimp only at f30
      refine AW.reg hS [(6, .pv (.bool ((r18 == r25) && r28)))] [] ?_ ?_
      · clear h
        (simp -implicitDefEqProofs only [RUNS, qindex, Nat.reduceAdd, Nat.reduceLeDiff, Nat.reduceSub, reduceIte, Nat.reduceEqDiff, Nat.reduceLT, reduceCtorEq, Nat.reduceMul, if_true, if_false, eq_self, ne_eq, env_bT, T_4, T_9, T_24, T_32, P30_eq, User.pv_eq, f17.1, f17.2.1, pf_21, f27, isBoolT_4, pf_10, f30]); repeat' (split <;> rename_i hb <;> (try simp only [HBS, ge_iff_le, gt_iff_lt] at hb) <;> simp -implicitDefEqProofs only [RUNS, qindex, Nat.reduceAdd, Nat.reduceLeDiff, Nat.reduceSub, reduceIte, Nat.reduceEqDiff, Nat.reduceLT, reduceCtorEq, Nat.reduceMul, if_true, if_false, eq_self, ne_eq, env_bT, T_4, T_9, T_24, T_32, P30_eq, User.pv_eq, f17.1, f17.2.1, pf_21, f27, isBoolT_4, pf_10, f30, *, decide_true, decide_false, Decidable.not_not, not_false_eq_true, not_true_eq_false])
        all_goals (first | (simp only [BOOLS]; done) | (simp [*]; done) | ((try simp only [CLOS, beq_iff_eq, bne_iff_ne, ne_eq] at *) <;> omega) | (simp_all; done) | (simp_all <;> omega))
      refine AW.ret ?_
      cases h
      show finish _ _ _ _ _ = _
      first | rfl | (simp [finish, resOf, renArgs, toPV, selObjs, sl])

end Go.Abs.U05
