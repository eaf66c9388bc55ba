/- The layer 45 laws: the functions walked. -/
import Derived.Test.YtddhgkeiiobfeaaDoorD1
set_option linter.unusedVariables false
set_option linter.unusedSimpArgs false
namespace Go.Abs.U45
open Go.RowKit Go.Proofs

set_option maxHeartbeats 4000000 in
theorem g_F20 {O : Orc} (hS : Sound env O) (hpf : O.pf = pfn) (c_L_IndexByte : C_L_IndexByte O) (c_F29 : C_F29 O) (c_F32 : C_F32 O) (s1 : Str) (r2 : NsOp) (r3 : Int) (h : F20 s1 = some (r2, r3)) : Good env 20 [.pv (.str s1)] [] [.pv (.agg [.int .i64 r2.kind_, .int .i64 r2.flag_, .str r2.new_, .str r2.old_]), .pv (.int .i64 r3)] [] := by
  have pf_29 : O.pf 29 = true := by rw [hpf]; rfl
  have pf_31 : O.pf 31 = true := by rw [hpf]; rfl
  have pf_32 : O.pf 32 = true := by rw [hpf]; rfl
  refine Good.start (fn := Tryd.f20) (N := 33) rfl rfl rfl (by simp) [] _ rfl rfl ?_
  rw [F20] at h
  refine AW.seq ?_
  refine AW.reg hS [(0, .pv (.str s1)), (2, .ref 0 0)] [.var [.pv (.int .i64 0), .pv (.int .i64 0), .pv (.str []), .pv (.str [])]] ?_ ?_
  · simp -implicitDefEqProofs only [RUNS, qindex, Nat.reduceAdd, Nat.reduceLeDiff, Nat.reduceSub, reduceIte, Nat.reduceEqDiff, Nat.reduceLT, reduceCtorEq, Nat.reduceMul, if_true, if_false, eq_self, ne_eq, env_bT, T_23, NsOp.pv_eq, Word.pv_eq, Chan.pv_eq, Target.pv_eq, P38_eq, Mount.pv_eq, P31_eq, Ns.pv_eq]
  refine AW.seq ?_
  refine AW.seq ?_
  replace h := Option.bind_eq_some_iff.1 h; obtain ⟨n4, q5, h⟩ := h
  have f6 := c_L_IndexByte s1 0 n4 q5
  try dsimp only at f6
  replace h := Option.bind_eq_some_iff.1 h; obtain ⟨n7, q8, h⟩ := h
  have f9 := fun hg => c_L_IndexByte s1 10 n7 (guardO_t q8 hg)
  try dsimp only at f9
  refine AW.reg hS [(0, .pv (.str s1)), (2, .ref 0 0), (14, .pv (.bool (decide (0 ≤ n4) || decide (0 ≤ n7))))] [.var [.pv (.int .i64 0), .pv (.int .i64 0), .pv (.str []), .pv (.str [])]] ?_ ?_
  · clear h
    (simp -implicitDefEqProofs only [RUNS, qindex, Nat.reduceAdd, Nat.reduceLeDiff, Nat.reduceSub, reduceIte, Nat.reduceEqDiff, Nat.reduceLT, reduceCtorEq, Nat.reduceMul, if_true, if_false, eq_self, ne_eq, env_bT, T_3, T_5, T_9, NsOp.pv_eq, Word.pv_eq, Chan.pv_eq, Target.pv_eq, P38_eq, Mount.pv_eq, P31_eq, Ns.pv_eq, pf_31, f6, eqT_3, f9]); repeat' (split <;> rename_i hb <;> (try simp only [HBS, ge_iff_le, gt_iff_lt] at hb) <;> simp -implicitDefEqProofs only [RUNS, qindex, Nat.reduceAdd, Nat.reduceLeDiff, Nat.reduceSub, reduceIte, Nat.reduceEqDiff, Nat.reduceLT, reduceCtorEq, Nat.reduceMul, if_true, if_false, eq_self, ne_eq, env_bT, T_3, T_5, T_9, NsOp.pv_eq, Word.pv_eq, Chan.pv_eq, Target.pv_eq, P38_eq, Mount.pv_eq, P31_eq, Ns.pv_eq, pf_31, f6, eqT_3, f9, *, decide_true, decide_false, Decidable.not_not, not_false_eq_true, not_true_eq_false])
    all_goals (first | (simp only [BOOLS]; done) | (simp [*]; done) | ((try simp only [CLOS, beq_iff_eq, bne_iff_ne, ne_eq] at *) <;> omega) | (simp_all; done) | (simp_all <;> omega))
  refine AW.cond (b := (decide (0 ≤ n4) || decide (0 ≤ n7))) rfl (fun hb10 => ?_) (fun hb10 => ?_)
  · replace h := bif_t hb10 h
    refine AW.seq ?_
    refine AW.reg hS [(2, .ref 0 0), (3, .pv (.int .i64 47))] [.var [.pv (.int .i64 0), .pv (.int .i64 0), .pv (.str []), .pv (.str [])]] ?_ ?_
    · simp -implicitDefEqProofs only [RUNS, qindex, Nat.reduceAdd, Nat.reduceLeDiff, Nat.reduceSub, reduceIte, Nat.reduceEqDiff, Nat.reduceLT, reduceCtorEq, Nat.reduceMul, if_true, if_false, eq_self, ne_eq, env_bT, T_23, NsOp.pv_eq, Word.pv_eq, Chan.pv_eq, Target.pv_eq, P38_eq, Mount.pv_eq, P31_eq, Ns.pv_eq]
    refine AW.ret ?_
    cases h
    show finish _ _ _ _ _ = _
    first | rfl | (simp [finish, resOf, renArgs, toPV, selObjs, sl])
  · replace h := bif_f hb10 h
    refine AW.skip ?_
    refine AW.seq ?_
    replace h := Option.bind_eq_some_iff.1 h; obtain ⟨⟨r11, r12⟩, q13, h⟩ := h
    dsimp only at h
    have f14 := c_F29 s1 r11 r12 q13
    try dsimp only at f14
    refine AW.reg hS [(2, .ref 0 0), (4, .pv (.slice (List.map Word.pv r11))), (5, .pv (.bool r12))] [.var [.pv (.int .i64 0), .pv (.int .i64 0), .pv (.str []), .pv (.str [])]] ?_ ?_
    · simp -implicitDefEqProofs only [RUNS, qindex, Nat.reduceAdd, Nat.reduceLeDiff, Nat.reduceSub, reduceIte, Nat.reduceEqDiff, Nat.reduceLT, reduceCtorEq, Nat.reduceMul, if_true, if_false, eq_self, ne_eq, env_bT, T_9, NsOp.pv_eq, Word.pv_eq, Chan.pv_eq, Target.pv_eq, P38_eq, Mount.pv_eq, P31_eq, Ns.pv_eq, pf_29, f14]
    refine AW.seq ?_
    refine AW.seq ?_
    refine AW.reg hS [(2, .ref 0 0), (4, .pv (.slice (List.map Word.pv r11))), (22, .pv (.bool (!r12)))] [.var [.pv (.int .i64 0), .pv (.int .i64 0), .pv (.str []), .pv (.str [])]] ?_ ?_
    · simp -implicitDefEqProofs only [RUNS, qindex, Nat.reduceAdd, Nat.reduceLeDiff, Nat.reduceSub, reduceIte, Nat.reduceEqDiff, Nat.reduceLT, reduceCtorEq, Nat.reduceMul, if_true, if_false, eq_self, ne_eq, env_bT, NsOp.pv_eq, Word.pv_eq, Chan.pv_eq, Target.pv_eq, P38_eq, Mount.pv_eq, P31_eq, Ns.pv_eq]
    refine AW.cond (b := !r12) rfl (fun hb15 => ?_) (fun hb15 => ?_)
    · replace h := bif_t hb15 h
      refine AW.seq ?_
      refine AW.reg hS [(2, .ref 0 0), (3, .pv (.int .i64 48))] [.var [.pv (.int .i64 0), .pv (.int .i64 0), .pv (.str []), .pv (.str [])]] ?_ ?_
      · simp -implicitDefEqProofs only [RUNS, qindex, Nat.reduceAdd, Nat.reduceLeDiff, Nat.reduceSub, reduceIte, Nat.reduceEqDiff, Nat.reduceLT, reduceCtorEq, Nat.reduceMul, if_true, if_false, eq_self, ne_eq, env_bT, T_23, NsOp.pv_eq, Word.pv_eq, Chan.pv_eq, Target.pv_eq, P38_eq, Mount.pv_eq, P31_eq, Ns.pv_eq]
      refine AW.ret ?_
      cases h
      show finish _ _ _ _ _ = _
      first | rfl | (simp [finish, resOf, renArgs, toPV, selObjs, sl])
    · replace h := bif_f hb15 h
      refine AW.skip ?_
      refine AW.seq ?_
      replace h := Option.bind_eq_some_iff.1 h; obtain ⟨⟨r16, r17⟩, q18, h⟩ := h
      dsimp only at h
      have f19 := c_F32 r11 r16 r17 q18
      try dsimp only at f19
      refine AW.reg hS [(2, .ref 0 0), (5, .pv (.bool r17)), (6, .ref 1 0)] [.var [.pv (.int .i64 0), .pv (.int .i64 0), .pv (.str []), .pv (.str [])], .var [.pv (.int .i64 r16.kind_), .pv (.int .i64 r16.flag_), .pv (.str r16.new_), .pv (.str r16.old_)]] ?_ ?_
      · simp -implicitDefEqProofs only [RUNS, qindex, Nat.reduceAdd, Nat.reduceLeDiff, Nat.reduceSub, reduceIte, Nat.reduceEqDiff, Nat.reduceLT, reduceCtorEq, Nat.reduceMul, if_true, if_false, eq_self, ne_eq, env_bT, T_23, T_64, T_77, NsOp.pv_eq, Word.pv_eq, Chan.pv_eq, Target.pv_eq, P38_eq, Mount.pv_eq, P31_eq, Ns.pv_eq, pf_32, f19]
      refine AW.seq ?_
      refine AW.seq ?_
      refine AW.reg hS [(2, .ref 0 0), (6, .ref 1 0), (30, .pv (.bool (!r17)))] [.var [.pv (.int .i64 0), .pv (.int .i64 0), .pv (.str []), .pv (.str [])], .var [.pv (.int .i64 r16.kind_), .pv (.int .i64 r16.flag_), .pv (.str r16.new_), .pv (.str r16.old_)]] ?_ ?_
      · simp -implicitDefEqProofs only [RUNS, qindex, Nat.reduceAdd, Nat.reduceLeDiff, Nat.reduceSub, reduceIte, Nat.reduceEqDiff, Nat.reduceLT, reduceCtorEq, Nat.reduceMul, if_true, if_false, eq_self, ne_eq, env_bT, NsOp.pv_eq, Word.pv_eq, Chan.pv_eq, Target.pv_eq, P38_eq, Mount.pv_eq, P31_eq, Ns.pv_eq]
      refine AW.cond (b := !r17) rfl (fun hb20 => ?_) (fun hb20 => ?_)
      · replace h := bif_t hb20 h
        refine AW.seq ?_
        refine AW.reg hS [(2, .ref 0 0), (3, .pv (.int .i64 47))] [.var [.pv (.int .i64 0), .pv (.int .i64 0), .pv (.str []), .pv (.str [])], .var [.pv (.int .i64 r16.kind_), .pv (.int .i64 r16.flag_), .pv (.str r16.new_), .pv (.str r16.old_)]] ?_ ?_
        · simp -implicitDefEqProofs only [RUNS, qindex, Nat.reduceAdd, Nat.reduceLeDiff, Nat.reduceSub, reduceIte, Nat.reduceEqDiff, Nat.reduceLT, reduceCtorEq, Nat.reduceMul, if_true, if_false, eq_self, ne_eq, env_bT, T_23, NsOp.pv_eq, Word.pv_eq, Chan.pv_eq, Target.pv_eq, P38_eq, Mount.pv_eq, P31_eq, Ns.pv_eq]
        refine AW.ret ?_
        cases h
        show finish _ _ _ _ _ = _
        first | rfl | (simp [finish, resOf, renArgs, toPV, selObjs, sl])
      · replace h := bif_f hb20 h
        refine AW.skip ?_
        refine AW.seq ?_
        refine AW.reg hS [(2, .ref 0 0), (3, .pv (.int .i64 0))] [.var [.pv (.int .i64 r16.kind_), .pv (.int .i64 r16.flag_), .pv (.str r16.new_), .pv (.str r16.old_)], .var [.pv (.int .i64 r16.kind_), .pv (.int .i64 r16.flag_), .pv (.str r16.new_), .pv (.str r16.old_)]] ?_ ?_
        · simp -implicitDefEqProofs only [RUNS, qindex, Nat.reduceAdd, Nat.reduceLeDiff, Nat.reduceSub, reduceIte, Nat.reduceEqDiff, Nat.reduceLT, reduceCtorEq, Nat.reduceMul, if_true, if_false, eq_self, ne_eq, env_bT, T_23, NsOp.pv_eq, Word.pv_eq, Chan.pv_eq, Target.pv_eq, P38_eq, Mount.pv_eq, P31_eq, Ns.pv_eq]
        refine AW.ret ?_
        cases h
        show finish _ _ _ _ _ = _
        first | rfl | (simp [finish, resOf, renArgs, toPV, selObjs, sl])

set_option maxHeartbeats 4000000 in
theorem g_F16 {O : Orc} (hS : Sound env O) (hpf : O.pf = pfn) (c_L_Split : C_L_Split O) (c_F29 : C_F29 O) (c_F20 : C_F20 O) (s1 : Str) (r2 : List NsOp) (r3 : Int) (r4 : Int) (h : F16 s1 = some (r2, r3, r4)) : Good env 16 [.pv (.str s1)] [] [.pv (.slice (List.map NsOp.pv r2)), .pv (.int .i64 r3), .pv (.int .i64 r4)] [] := by
  have pf_20 : O.pf 20 = true := by rw [hpf]; rfl
  have pf_28 : O.pf 28 = true := by rw [hpf]; rfl
  have pf_29 : O.pf 29 = true := by rw [hpf]; rfl
  refine Good.start (fn := Tryd.f16) (N := 49) rfl rfl rfl (by simp) [] _ rfl rfl ?_
  rw [F16] at h
  refine AW.seq ?_
  refine AW.reg hS [(0, .pv (.str s1))] [] ?_ ?_
  · simp -implicitDefEqProofs only [RUNS, qindex, Nat.reduceAdd, Nat.reduceLeDiff, Nat.reduceSub, reduceIte, Nat.reduceEqDiff, Nat.reduceLT, reduceCtorEq, Nat.reduceMul, if_true, if_false, eq_self, ne_eq, env_bT, NsOp.pv_eq, Word.pv_eq, Chan.pv_eq, Target.pv_eq, P38_eq, Mount.pv_eq, P31_eq, Ns.pv_eq]
  refine AW.seq ?_
  refine AW.seq ?_
  refine AW.reg hS [(0, .pv (.str s1)), (14, .pv (.bool (decide (65536 < (s1.length : Int)))))] [] ?_ ?_
  · simp -implicitDefEqProofs only [RUNS, qindex, Nat.reduceAdd, Nat.reduceLeDiff, Nat.reduceSub, reduceIte, Nat.reduceEqDiff, Nat.reduceLT, reduceCtorEq, Nat.reduceMul, if_true, if_false, eq_self, ne_eq, env_bT, T_3, T_9, NsOp.pv_eq, Word.pv_eq, Chan.pv_eq, Target.pv_eq, P38_eq, Mount.pv_eq, P31_eq, Ns.pv_eq, eqT_3]
  refine AW.cond (b := decide (65536 < (s1.length : Int))) rfl (fun hb5 => ?_) (fun hb5 => ?_)
  · replace h := bif_t hb5 h
    refine AW.seq ?_
    refine AW.reg hS [(2, .nils), (3, .pv (.int .i64 0)), (4, .pv (.int .i64 4))] [] ?_ ?_
    · simp -implicitDefEqProofs only [RUNS, qindex, Nat.reduceAdd, Nat.reduceLeDiff, Nat.reduceSub, reduceIte, Nat.reduceEqDiff, Nat.reduceLT, reduceCtorEq, Nat.reduceMul, if_true, if_false, eq_self, ne_eq, env_bT, NsOp.pv_eq, Word.pv_eq, Chan.pv_eq, Target.pv_eq, P38_eq, Mount.pv_eq, P31_eq, Ns.pv_eq]
    refine AW.ret ?_
    cases h
    show finish _ _ _ _ _ = _
    first | rfl | (simp [finish, resOf, renArgs, toPV, selObjs, sl])
  · replace h := bif_f hb5 h
    refine AW.skip ?_
    refine AW.seq ?_
    refine AW.reg hS [(0, .pv (.str s1)), (5, .nils)] [] ?_ ?_
    · simp -implicitDefEqProofs only [RUNS, qindex, Nat.reduceAdd, Nat.reduceLeDiff, Nat.reduceSub, reduceIte, Nat.reduceEqDiff, Nat.reduceLT, reduceCtorEq, Nat.reduceMul, if_true, if_false, eq_self, ne_eq, env_bT, NsOp.pv_eq, Word.pv_eq, Chan.pv_eq, Target.pv_eq, P38_eq, Mount.pv_eq, P31_eq, Ns.pv_eq]
    refine AW.weak (Weak.own 5 23 4 (by decide) rfl) ?_
    refine AW.weak (Weak.slots (L := [(0, .pv (.str s1)), (5, .vec 0 (List.length ([] : List NsOp)))]) ⟨rfl, rfl, trivial⟩) ?_
    refine AW.seq ?_
    refine AW.seq ?_
    replace h := Option.bind_eq_some_iff.1 h; obtain ⟨l6, q7, h⟩ := h
    have f8 := c_L_Split s1 [10] l6 q7
    try dsimp only at f8
    try simp only [List.map_cons, List.map_nil, NsOp.pv_eq, Word.pv_eq, Chan.pv_eq, Target.pv_eq, P38_eq, Mount.pv_eq, P31_eq, Ns.pv_eq] at f8
    refine AW.reg hS [(5, .vec 0 (List.length ([] : List NsOp))), (16, .pv (.slice (List.map PV.str l6))), (17, .pv (.int .i64 (l6.length : Int))), (18, .pv (.int .i64 0))] [.row 23 4 (List.map NsOp.pv ([] : List NsOp)) true] ?_ ?_
    · simp -implicitDefEqProofs only [RUNS, qindex, Nat.reduceAdd, Nat.reduceLeDiff, Nat.reduceSub, reduceIte, Nat.reduceEqDiff, Nat.reduceLT, reduceCtorEq, Nat.reduceMul, if_true, if_false, eq_self, ne_eq, env_bT, T_9, T_62, NsOp.pv_eq, Word.pv_eq, Chan.pv_eq, Target.pv_eq, P38_eq, Mount.pv_eq, P31_eq, Ns.pv_eq, pf_28, f8]
    refine AW.block ?_
    refine AW.weak (Weak.slots (L := [(5, .vec 0 (List.length ([] : List NsOp))), (16, .pv (.slice (List.map PV.str l6))), (17, .pv (.int .i64 (l6.length : Int))), (18, .pv (.int .i64 0))]) ⟨rfl, rfl, rfl, rfl, trivial⟩) ?_
    refine AW.loopI (α := Nat × Int × (List NsOp)) (fun (_, i9, l10) => ⟨sl [(5, .vec 0 (List.length l10)), (16, .pv (.slice (List.map PV.str l6))), (17, .pv (.int .i64 (l6.length : Int))), (18, .pv (.int .i64 i9))], 49, [.row 23 4 (List.map NsOp.pv l10) true]⟩) (fun x => iter (F16_b1 l6) x.1 x.2 = some (r2, r3, r4)) (fun x => x.1) (BIG, (0, ([] : List NsOp))) h ?_
    clear h
    intro ⟨n31, i9, l10⟩ h
    replace h := iter_some h; obtain ⟨m13, rfl, h⟩ := h
    rw [F16_b1] at h
    try dsimp only at h
    show AW _ _ _ _ ⟨sl [(5, .vec 0 (List.length l10)), (16, .pv (.slice (List.map PV.str l6))), (17, .pv (.int .i64 (l6.length : Int))), (18, .pv (.int .i64 i9))], 49, [.row 23 4 (List.map NsOp.pv l10) true]⟩
    refine AW.seq ?_
    refine AW.reg hS [(5, .vec 0 (List.length l10)), (16, .pv (.slice (List.map PV.str l6))), (17, .pv (.int .i64 (l6.length : Int))), (18, .pv (.int .i64 i9)), (19, .pv (.bool (decide (i9 < (l6.length : Int)))))] [.row 23 4 (List.map NsOp.pv l10) true] ?_ ?_
    · simp -implicitDefEqProofs only [RUNS, qindex, Nat.reduceAdd, Nat.reduceLeDiff, Nat.reduceSub, reduceIte, Nat.reduceEqDiff, Nat.reduceLT, reduceCtorEq, Nat.reduceMul, if_true, if_false, eq_self, ne_eq, env_bT, T_3, NsOp.pv_eq, Word.pv_eq, Chan.pv_eq, Target.pv_eq, P38_eq, Mount.pv_eq, P31_eq, Ns.pv_eq, eqT_3]
    refine AW.seq ?_
    refine AW.cond (b := decide (i9 < (l6.length : Int))) rfl (fun hb14 => ?_) (fun hb14 => ?_)
    · replace h := bif_t hb14 h
      refine AW.skip ?_
      refine AW.seq ?_
      refine AW.block ?_
      refine AW.seq ?_
      replace h := Option.bind_eq_some_iff.1 h; obtain ⟨w15, q16, h⟩ := h
      have f17 := lidx_f q16
      refine AW.reg hS [(5, .vec 0 (List.length l10)), (6, .pv (.int .i64 i9)), (7, .pv (.str w15)), (16, .pv (.slice (List.map PV.str l6))), (17, .pv (.int .i64 (l6.length : Int))), (18, .pv (.int .i64 i9))] [.row 23 4 (List.map NsOp.pv l10) true] ?_ ?_
      · simp -implicitDefEqProofs only [RUNS, qindex, Nat.reduceAdd, Nat.reduceLeDiff, Nat.reduceSub, reduceIte, Nat.reduceEqDiff, Nat.reduceLT, reduceCtorEq, Nat.reduceMul, if_true, if_false, eq_self, ne_eq, env_bT, T_9, T_62, NsOp.pv_eq, Word.pv_eq, Chan.pv_eq, Target.pv_eq, P38_eq, Mount.pv_eq, P31_eq, Ns.pv_eq, f17.1, f17.2.1]
      refine AW.seq ?_
      refine AW.seq ?_
      replace h := Option.bind_eq_some_iff.1 h; obtain ⟨⟨r18, r19⟩, q20, h⟩ := h
      dsimp only at h
      have f21 := c_F29 w15 r18 r19 q20
      try dsimp only at f21
      refine AW.reg hS [(5, .vec 0 (List.length l10)), (6, .pv (.int .i64 i9)), (7, .pv (.str w15)), (8, .pv (.slice (List.map Word.pv r18))), (9, .pv (.bool r19)), (16, .pv (.slice (List.map PV.str l6))), (17, .pv (.int .i64 (l6.length : Int))), (18, .pv (.int .i64 i9))] [.row 23 4 (List.map NsOp.pv l10) true] ?_ ?_
      · simp -implicitDefEqProofs only [RUNS, qindex, Nat.reduceAdd, Nat.reduceLeDiff, Nat.reduceSub, reduceIte, Nat.reduceEqDiff, Nat.reduceLT, reduceCtorEq, Nat.reduceMul, if_true, if_false, eq_self, ne_eq, env_bT, T_9, NsOp.pv_eq, Word.pv_eq, Chan.pv_eq, Target.pv_eq, P38_eq, Mount.pv_eq, P31_eq, Ns.pv_eq, pf_29, f21]
      refine AW.seq ?_
      refine AW.reg hS [(5, .vec 0 (List.length l10)), (6, .pv (.int .i64 i9)), (7, .pv (.str w15)), (16, .pv (.slice (List.map PV.str l6))), (17, .pv (.int .i64 (l6.length : Int))), (18, .pv (.int .i64 i9)), (33, .pv (.bool (r19 && decide ((r18.length : Int) = 0))))] [.row 23 4 (List.map NsOp.pv l10) true] ?_ ?_
      · clear h
        (simp -implicitDefEqProofs only [RUNS, qindex, Nat.reduceAdd, Nat.reduceLeDiff, Nat.reduceSub, reduceIte, Nat.reduceEqDiff, Nat.reduceLT, reduceCtorEq, Nat.reduceMul, if_true, if_false, eq_self, ne_eq, env_bT, T_3, T_64, T_77, NsOp.pv_eq, Word.pv_eq, Chan.pv_eq, Target.pv_eq, P38_eq, Mount.pv_eq, P31_eq, Ns.pv_eq, eqT_3]); repeat' (split <;> rename_i hb <;> (try simp only [HBS, ge_iff_le, gt_iff_lt] at hb) <;> simp -implicitDefEqProofs only [RUNS, qindex, Nat.reduceAdd, Nat.reduceLeDiff, Nat.reduceSub, reduceIte, Nat.reduceEqDiff, Nat.reduceLT, reduceCtorEq, Nat.reduceMul, if_true, if_false, eq_self, ne_eq, env_bT, T_3, T_64, T_77, NsOp.pv_eq, Word.pv_eq, Chan.pv_eq, Target.pv_eq, P38_eq, Mount.pv_eq, P31_eq, Ns.pv_eq, eqT_3, *, decide_true, decide_false, Decidable.not_not, not_false_eq_true, not_true_eq_false])
        all_goals (first | (simp only [BOOLS]; done) | (simp [*]; done) | ((try simp only [CLOS, beq_iff_eq, bne_iff_ne, ne_eq] at *) <;> omega) | (simp_all; done) | (simp_all <;> omega))
      refine AW.cond (b := (r19 && decide ((r18.length : Int) = 0))) rfl (fun hb22 => ?_) (fun hb22 => ?_)
      · replace h := bif_t hb22 h
        refine AW.exit ?_
        refine AW.reg hS [(5, .vec 0 (List.length l10)), (16, .pv (.slice (List.map PV.str l6))), (17, .pv (.int .i64 (l6.length : Int))), (18, .pv (.int .i64 (IntKind.wrap .i64 (i9 + 1))))] [.row 23 4 (List.map NsOp.pv l10) true] ?_ ?_
        · simp -implicitDefEqProofs only [RUNS, qindex, Nat.reduceAdd, Nat.reduceLeDiff, Nat.reduceSub, reduceIte, Nat.reduceEqDiff, Nat.reduceLT, reduceCtorEq, Nat.reduceMul, if_true, if_false, eq_self, ne_eq, env_bT, T_3, NsOp.pv_eq, Word.pv_eq, Chan.pv_eq, Target.pv_eq, P38_eq, Mount.pv_eq, P31_eq, Ns.pv_eq, eqT_3]
        exact ⟨(m13, (IntKind.wrap .i64 (i9 + 1), l10)), h, (Weak.norm (m := 1) (Nat.le_of_ble_eq_true rfl) ⟨rfl, rfl, rfl, rfl, trivial⟩ rfl rfl rfl), Nat.lt_succ_self _⟩
      · replace h := bif_f hb22 h
        refine AW.skip ?_
        refine AW.seq ?_
        replace h := Option.bind_eq_some_iff.1 h; obtain ⟨⟨r23, r24⟩, q25, h⟩ := h
        dsimp only at h
        have f26 := c_F20 w15 r23 r24 q25
        try dsimp only at f26
        refine AW.reg hS [(5, .vec 0 (List.length l10)), (6, .pv (.int .i64 i9)), (10, .ref 1 0), (11, .pv (.int .i64 r24)), (16, .pv (.slice (List.map PV.str l6))), (17, .pv (.int .i64 (l6.length : Int))), (18, .pv (.int .i64 i9))] [.row 23 4 (List.map NsOp.pv l10) true, .var [.pv (.int .i64 r23.kind_), .pv (.int .i64 r23.flag_), .pv (.str r23.new_), .pv (.str r23.old_)]] ?_ ?_
        · simp -implicitDefEqProofs only [RUNS, qindex, Nat.reduceAdd, Nat.reduceLeDiff, Nat.reduceSub, reduceIte, Nat.reduceEqDiff, Nat.reduceLT, reduceCtorEq, Nat.reduceMul, if_true, if_false, eq_self, ne_eq, env_bT, T_9, T_23, NsOp.pv_eq, Word.pv_eq, Chan.pv_eq, Target.pv_eq, P38_eq, Mount.pv_eq, P31_eq, Ns.pv_eq, pf_20, f26]
        refine AW.seq ?_
        refine AW.seq ?_
        refine AW.reg hS [(5, .vec 0 (List.length l10)), (6, .pv (.int .i64 i9)), (10, .ref 1 0), (11, .pv (.int .i64 r24)), (16, .pv (.slice (List.map PV.str l6))), (17, .pv (.int .i64 (l6.length : Int))), (18, .pv (.int .i64 i9)), (40, .pv (.bool (!decide (r24 = 0))))] [.row 23 4 (List.map NsOp.pv l10) true, .var [.pv (.int .i64 r23.kind_), .pv (.int .i64 r23.flag_), .pv (.str r23.new_), .pv (.str r23.old_)]] ?_ ?_
        · simp -implicitDefEqProofs only [RUNS, qindex, Nat.reduceAdd, Nat.reduceLeDiff, Nat.reduceSub, reduceIte, Nat.reduceEqDiff, Nat.reduceLT, reduceCtorEq, Nat.reduceMul, if_true, if_false, eq_self, ne_eq, env_bT, T_26, NsOp.pv_eq, Word.pv_eq, Chan.pv_eq, Target.pv_eq, P38_eq, Mount.pv_eq, P31_eq, Ns.pv_eq, eqT_26]
        refine AW.cond (b := !decide (r24 = 0)) rfl (fun hb27 => ?_) (fun hb27 => ?_)
        · replace h := bif_t hb27 h
          refine AW.seq ?_
          refine AW.reg hS [(2, .nils), (3, .pv (.int .i64 i9)), (4, .pv (.int .i64 r24))] [.row 23 4 (List.map NsOp.pv l10) true, .var [.pv (.int .i64 r23.kind_), .pv (.int .i64 r23.flag_), .pv (.str r23.new_), .pv (.str r23.old_)]] ?_ ?_
          · simp -implicitDefEqProofs only [RUNS, qindex, Nat.reduceAdd, Nat.reduceLeDiff, Nat.reduceSub, reduceIte, Nat.reduceEqDiff, Nat.reduceLT, reduceCtorEq, Nat.reduceMul, if_true, if_false, eq_self, ne_eq, env_bT, NsOp.pv_eq, Word.pv_eq, Chan.pv_eq, Target.pv_eq, P38_eq, Mount.pv_eq, P31_eq, Ns.pv_eq]
          refine AW.ret ?_
          cases h
          show finish _ _ _ _ _ = _
          first | rfl | (simp [finish, resOf, renArgs, toPV, selObjs, sl])
        · replace h := bif_f hb27 h
          refine AW.skip ?_
          replace h := Option.bind_eq_some_iff.1 h; obtain ⟨out28, q29, h⟩ := h
          have f30 := appO_f q29
          try simp only [List.length_cons, List.length_nil, Nat.zero_add, Nat.reduceAdd, Nat.reduceLeDiff, Nat.add_zero, Nat.reduceMul] at f30
          refine AW.reg hS [(5, .vec 0 (List.length out28)), (16, .pv (.slice (List.map PV.str l6))), (17, .pv (.int .i64 (l6.length : Int))), (18, .pv (.int .i64 i9))] [.row 23 4 (List.map NsOp.pv out28) true, .var [.pv (.int .i64 r23.kind_), .pv (.int .i64 r23.flag_), .pv (.str r23.new_), .pv (.str r23.old_)]] ?_ ?_
          · simp -implicitDefEqProofs only [RUNS, qindex, Nat.reduceAdd, Nat.reduceLeDiff, Nat.reduceSub, reduceIte, Nat.reduceEqDiff, Nat.reduceLT, reduceCtorEq, Nat.reduceMul, if_true, if_false, eq_self, ne_eq, env_bT, T_23, T_43, NsOp.pv_eq, Word.pv_eq, Chan.pv_eq, Target.pv_eq, P38_eq, Mount.pv_eq, P31_eq, Ns.pv_eq, f30.1, f30.2, NsOp.all]
          refine AW.reg hS [(5, .vec 0 (List.length out28)), (16, .pv (.slice (List.map PV.str l6))), (17, .pv (.int .i64 (l6.length : Int))), (18, .pv (.int .i64 (IntKind.wrap .i64 (i9 + 1))))] [.row 23 4 (List.map NsOp.pv out28) true, .var [.pv (.int .i64 r23.kind_), .pv (.int .i64 r23.flag_), .pv (.str r23.new_), .pv (.str r23.old_)]] ?_ ?_
          · simp -implicitDefEqProofs only [RUNS, qindex, Nat.reduceAdd, Nat.reduceLeDiff, Nat.reduceSub, reduceIte, Nat.reduceEqDiff, Nat.reduceLT, reduceCtorEq, Nat.reduceMul, if_true, if_false, eq_self, ne_eq, env_bT, T_3, NsOp.pv_eq, Word.pv_eq, Chan.pv_eq, Target.pv_eq, P38_eq, Mount.pv_eq, P31_eq, Ns.pv_eq, eqT_3]
          exact ⟨(m13, (IntKind.wrap .i64 (i9 + 1), out28)), h, (Weak.norm (m := 1) (Nat.le_of_ble_eq_true rfl) ⟨rfl, rfl, rfl, rfl, trivial⟩ rfl rfl rfl), Nat.lt_succ_self _⟩
    · replace h := bif_f hb14 h
      refine AW.exit ?_
      refine AW.seq ?_
      refine AW.reg hS [(2, .vec 0 (List.length l10)), (3, .pv (.int .i64 0)), (4, .pv (.int .i64 0))] [.row 23 4 (List.map NsOp.pv l10) true] ?_ ?_
      · simp -implicitDefEqProofs only [RUNS, qindex, Nat.reduceAdd, Nat.reduceLeDiff, Nat.reduceSub, reduceIte, Nat.reduceEqDiff, Nat.reduceLT, reduceCtorEq, Nat.reduceMul, if_true, if_false, eq_self, ne_eq, env_bT, NsOp.pv_eq, Word.pv_eq, Chan.pv_eq, Target.pv_eq, P38_eq, Mount.pv_eq, P31_eq, Ns.pv_eq]
      refine AW.ret ?_
      cases h
      show finish _ _ _ _ _ = _
      first | rfl | (simp [finish, resOf, renArgs, toPV, selObjs, sl])

set_option maxHeartbeats 4000000 in
theorem g_F25 {O : Orc} (hS : Sound env O) (hpf : O.pf = pfn) (a1 : Chan) (b2 : Chan) (r3 : Bool) (h : F25 a1 b2 = some r3) : Good env 25 [.pv (.agg [.int .i64 a1.dev_, .int .i64 a1.id_, .int .i64 a1.fid_, .str a1.path_, .str a1.name_]), .pv (.agg [.int .i64 b2.dev_, .int .i64 b2.id_, .int .i64 b2.fid_, .str b2.path_, .str b2.name_])] [] [.pv (.bool r3)] [] := by
  refine Good.start (fn := Tryd.f25) (N := 17) rfl rfl rfl (by simp) [] _ rfl rfl ?_
  rw [F25] at h
  refine AW.seq ?_
  refine AW.reg hS [(2, .ref 0 0), (3, .ref 1 0)] [.var [.pv (.int .i64 a1.dev_), .pv (.int .i64 a1.id_), .pv (.int .i64 a1.fid_), .pv (.str a1.path_), .pv (.str a1.name_)], .var [.pv (.int .i64 b2.dev_), .pv (.int .i64 b2.id_), .pv (.int .i64 b2.fid_), .pv (.str b2.path_), .pv (.str b2.name_)]] ?_ ?_
  · simp -implicitDefEqProofs only [RUNS, qindex, Nat.reduceAdd, Nat.reduceLeDiff, Nat.reduceSub, reduceIte, Nat.reduceEqDiff, Nat.reduceLT, reduceCtorEq, Nat.reduceMul, if_true, if_false, eq_self, ne_eq, env_bT, T_30, NsOp.pv_eq, Word.pv_eq, Chan.pv_eq, Target.pv_eq, P38_eq, Mount.pv_eq, P31_eq, Ns.pv_eq]
  refine AW.seq ?_
  refine AW.reg hS [(4, .pv (.bool (decide (a1.dev_ = b2.dev_) && decide (a1.id_ = b2.id_))))] [.var [.pv (.int .i64 a1.dev_), .pv (.int .i64 a1.id_), .pv (.int .i64 a1.fid_), .pv (.str a1.path_), .pv (.str a1.name_)], .var [.pv (.int .i64 b2.dev_), .pv (.int .i64 b2.id_), .pv (.int .i64 b2.fid_), .pv (.str b2.path_), .pv (.str b2.name_)]] ?_ ?_
  · clear h
    (simp -implicitDefEqProofs only [RUNS, qindex, Nat.reduceAdd, Nat.reduceLeDiff, Nat.reduceSub, reduceIte, Nat.reduceEqDiff, Nat.reduceLT, reduceCtorEq, Nat.reduceMul, if_true, if_false, eq_self, ne_eq, env_bT, T_3, T_30, NsOp.pv_eq, Word.pv_eq, Chan.pv_eq, Target.pv_eq, P38_eq, Mount.pv_eq, P31_eq, Ns.pv_eq, eqT_3]); repeat' (split <;> rename_i hb <;> (try simp only [HBS, ge_iff_le, gt_iff_lt] at hb) <;> simp -implicitDefEqProofs only [RUNS, qindex, Nat.reduceAdd, Nat.reduceLeDiff, Nat.reduceSub, reduceIte, Nat.reduceEqDiff, Nat.reduceLT, reduceCtorEq, Nat.reduceMul, if_true, if_false, eq_self, ne_eq, env_bT, T_3, T_30, NsOp.pv_eq, Word.pv_eq, Chan.pv_eq, Target.pv_eq, P38_eq, Mount.pv_eq, P31_eq, Ns.pv_eq, eqT_3, *, decide_true, decide_false, Decidable.not_not, not_false_eq_true, not_true_eq_false])
    all_goals (first | (simp only [BOOLS]; done) | (simp [*]; done) | ((try simp only [CLOS, beq_iff_eq, bne_iff_ne, ne_eq] at *) <;> omega) | (simp_all; done) | (simp_all <;> omega))
  refine AW.ret ?_
  cases h
  show finish _ _ _ _ _ = _
  first | rfl | (simp [finish, resOf, renArgs, toPV, selObjs, sl])

set_option maxHeartbeats 4000000 in
theorem g_F13 {O : Orc} (hS : Sound env O) (hpf : O.pf = pfn) (c_F25 : C_F25 O) (c_F23 : C_F23 O) (c_L_WriteString : C_L_WriteString O) (c_L_String : C_L_String O) (n1 : Ns) (cwd2 : Str) (r3 : Str) (h : F13 n1 cwd2 = some r3) : Good env 13 [.pv (.agg [.int .i64 n1.id_, .int .i64 n1.root_.dev_, .int .i64 n1.root_.id_, .int .i64 n1.root_.fid_, .str n1.root_.path_, .str n1.root_.name_, .slice (List.map Mount.pv n1.mounts_)]), .pv (.str cwd2)] [] [.pv (.str r3)] [] := by
  have pf_23 : O.pf 23 = true := by rw [hpf]; rfl
  have pf_25 : O.pf 25 = true := by rw [hpf]; rfl
  have pf_26 : O.pf 26 = false := by rw [hpf]; rfl
  have pf_27 : O.pf 27 = false := by rw [hpf]; rfl
  refine Good.start (fn := Tryd.f13) (N := 68) rfl rfl rfl (by simp) [] _ rfl rfl ?_
  rw [F13] at h
  refine AW.seq ?_
  refine AW.reg hS [(1, .pv (.str cwd2)), (2, .ref 0 0)] [.var [.pv (.int .i64 n1.id_), .pv (.int .i64 n1.root_.dev_), .pv (.int .i64 n1.root_.id_), .pv (.int .i64 n1.root_.fid_), .pv (.str n1.root_.path_), .pv (.str n1.root_.name_), .pv (.slice (List.map Mount.pv n1.mounts_))]] ?_ ?_
  · simp -implicitDefEqProofs only [RUNS, qindex, Nat.reduceAdd, Nat.reduceLeDiff, Nat.reduceSub, reduceIte, Nat.reduceEqDiff, Nat.reduceLT, reduceCtorEq, Nat.reduceMul, if_true, if_false, eq_self, ne_eq, env_bT, T_33, NsOp.pv_eq, Word.pv_eq, Chan.pv_eq, Target.pv_eq, P38_eq, Mount.pv_eq, P31_eq, Ns.pv_eq]
  refine AW.seq ?_
  refine AW.reg hS [(1, .pv (.str cwd2)), (2, .ref 0 0), (5, .ref 1 0)] [.var [.pv (.int .i64 n1.id_), .pv (.int .i64 n1.root_.dev_), .pv (.int .i64 n1.root_.id_), .pv (.int .i64 n1.root_.fid_), .pv (.str n1.root_.path_), .pv (.str n1.root_.name_), .pv (.slice (List.map Mount.pv n1.mounts_))], .bld []] ?_ ?_
  · simp -implicitDefEqProofs only [RUNS, qindex, Nat.reduceAdd, Nat.reduceLeDiff, Nat.reduceSub, reduceIte, Nat.reduceEqDiff, Nat.reduceLT, reduceCtorEq, Nat.reduceMul, if_true, if_false, eq_self, ne_eq, env_bT, T_55, NsOp.pv_eq, Word.pv_eq, Chan.pv_eq, Target.pv_eq, P38_eq, Mount.pv_eq, P31_eq, Ns.pv_eq]
  refine AW.seq ?_
  refine AW.seq ?_
  refine AW.reg hS [(1, .pv (.str cwd2)), (5, .ref 1 0), (12, .pv (.slice (List.map Mount.pv n1.mounts_))), (13, .pv (.int .i64 (n1.mounts_.length : Int))), (14, .pv (.int .i64 0))] [.var [.pv (.int .i64 n1.id_), .pv (.int .i64 n1.root_.dev_), .pv (.int .i64 n1.root_.id_), .pv (.int .i64 n1.root_.fid_), .pv (.str n1.root_.path_), .pv (.str n1.root_.name_), .pv (.slice (List.map Mount.pv n1.mounts_))], .bld []] ?_ ?_
  · simp -implicitDefEqProofs only [RUNS, qindex, Nat.reduceAdd, Nat.reduceLeDiff, Nat.reduceSub, reduceIte, Nat.reduceEqDiff, Nat.reduceLT, reduceCtorEq, Nat.reduceMul, if_true, if_false, eq_self, ne_eq, env_bT, T_31, T_33, T_40, NsOp.pv_eq, Word.pv_eq, Chan.pv_eq, Target.pv_eq, P38_eq, Mount.pv_eq, P31_eq, Ns.pv_eq]
  refine AW.block ?_
  refine AW.weak (Weak.slots (L := [(1, .pv (.str cwd2)), (5, .ref 1 0), (12, .pv (.slice (List.map Mount.pv n1.mounts_))), (13, .pv (.int .i64 (n1.mounts_.length : Int))), (14, .pv (.int .i64 0))]) ⟨rfl, rfl, rfl, rfl, rfl, trivial⟩) ?_
  refine AW.loopI (α := Nat × Int × Str) (fun (_, i4, b5) => ⟨sl [(1, .pv (.str cwd2)), (5, .ref 1 0), (12, .pv (.slice (List.map Mount.pv n1.mounts_))), (13, .pv (.int .i64 (n1.mounts_.length : Int))), (14, .pv (.int .i64 i4))], 68, [.var [.pv (.int .i64 n1.id_), .pv (.int .i64 n1.root_.dev_), .pv (.int .i64 n1.root_.id_), .pv (.int .i64 n1.root_.fid_), .pv (.str n1.root_.path_), .pv (.str n1.root_.name_), .pv (.slice (List.map Mount.pv n1.mounts_))], .bld b5]⟩) (fun x => iter (F13_b2 n1 cwd2) x.1 x.2 = some r3) (fun x => x.1) (BIG, (0, [])) h ?_
  clear h
  intro ⟨n55, i4, b5⟩ h
  replace h := iter_some h; obtain ⟨m8, rfl, h⟩ := h
  rw [F13_b2] at h
  try dsimp only at h
  show AW _ _ _ _ ⟨sl [(1, .pv (.str cwd2)), (5, .ref 1 0), (12, .pv (.slice (List.map Mount.pv n1.mounts_))), (13, .pv (.int .i64 (n1.mounts_.length : Int))), (14, .pv (.int .i64 i4))], 68, [.var [.pv (.int .i64 n1.id_), .pv (.int .i64 n1.root_.dev_), .pv (.int .i64 n1.root_.id_), .pv (.int .i64 n1.root_.fid_), .pv (.str n1.root_.path_), .pv (.str n1.root_.name_), .pv (.slice (List.map Mount.pv n1.mounts_))], .bld b5]⟩
  refine AW.seq ?_
  refine AW.reg hS [(1, .pv (.str cwd2)), (5, .ref 1 0), (12, .pv (.slice (List.map Mount.pv n1.mounts_))), (13, .pv (.int .i64 (n1.mounts_.length : Int))), (14, .pv (.int .i64 i4)), (15, .pv (.bool (decide (i4 < (n1.mounts_.length : Int)))))] [.var [.pv (.int .i64 n1.id_), .pv (.int .i64 n1.root_.dev_), .pv (.int .i64 n1.root_.id_), .pv (.int .i64 n1.root_.fid_), .pv (.str n1.root_.path_), .pv (.str n1.root_.name_), .pv (.slice (List.map Mount.pv n1.mounts_))], .bld b5] ?_ ?_
  · simp -implicitDefEqProofs only [RUNS, qindex, Nat.reduceAdd, Nat.reduceLeDiff, Nat.reduceSub, reduceIte, Nat.reduceEqDiff, Nat.reduceLT, reduceCtorEq, Nat.reduceMul, if_true, if_false, eq_self, ne_eq, env_bT, T_3, NsOp.pv_eq, Word.pv_eq, Chan.pv_eq, Target.pv_eq, P38_eq, Mount.pv_eq, P31_eq, Ns.pv_eq, eqT_3]
  refine AW.seq ?_
  refine AW.cond (b := decide (i4 < (n1.mounts_.length : Int))) rfl (fun hb9 => ?_) (fun hb9 => ?_)
  · replace h := bif_t hb9 h
    refine AW.skip ?_
    refine AW.seq ?_
    refine AW.block ?_
    refine AW.seq ?_
    replace h := Option.bind_eq_some_iff.1 h; obtain ⟨u10, q11, h⟩ := h
    have f12 := lidx_f q11
    refine AW.reg hS [(1, .pv (.str cwd2)), (5, .ref 1 0), (7, .ref 2 0), (12, .pv (.slice (List.map Mount.pv n1.mounts_))), (13, .pv (.int .i64 (n1.mounts_.length : Int))), (14, .pv (.int .i64 i4))] [.var [.pv (.int .i64 n1.id_), .pv (.int .i64 n1.root_.dev_), .pv (.int .i64 n1.root_.id_), .pv (.int .i64 n1.root_.fid_), .pv (.str n1.root_.path_), .pv (.str n1.root_.name_), .pv (.slice (List.map Mount.pv n1.mounts_))], .bld b5, .var [.pv (.int .i64 u10.from_.dev_), .pv (.int .i64 u10.from_.id_), .pv (.int .i64 u10.from_.fid_), .pv (.str u10.from_.path_), .pv (.str u10.from_.name_), .pv (.slice (List.map Target.pv u10.to_))]] ?_ ?_
    · simp -implicitDefEqProofs only [RUNS, qindex, Nat.reduceAdd, Nat.reduceLeDiff, Nat.reduceSub, reduceIte, Nat.reduceEqDiff, Nat.reduceLT, reduceCtorEq, Nat.reduceMul, if_true, if_false, eq_self, ne_eq, env_bT, T_31, T_40, NsOp.pv_eq, Word.pv_eq, Chan.pv_eq, Target.pv_eq, P38_eq, Mount.pv_eq, P31_eq, Ns.pv_eq, f12.1, f12.2.1]
    refine AW.seq ?_
    refine AW.reg hS [(1, .pv (.str cwd2)), (5, .ref 1 0), (7, .ref 2 0), (12, .pv (.slice (List.map Mount.pv n1.mounts_))), (13, .pv (.int .i64 (n1.mounts_.length : Int))), (14, .pv (.int .i64 i4)), (19, .pv (.slice (List.map Target.pv u10.to_))), (20, .pv (.int .i64 (u10.to_.length : Int))), (21, .pv (.int .i64 0))] [.var [.pv (.int .i64 n1.id_), .pv (.int .i64 n1.root_.dev_), .pv (.int .i64 n1.root_.id_), .pv (.int .i64 n1.root_.fid_), .pv (.str n1.root_.path_), .pv (.str n1.root_.name_), .pv (.slice (List.map Mount.pv n1.mounts_))], .bld b5, .var [.pv (.int .i64 u10.from_.dev_), .pv (.int .i64 u10.from_.id_), .pv (.int .i64 u10.from_.fid_), .pv (.str u10.from_.path_), .pv (.str u10.from_.name_), .pv (.slice (List.map Target.pv u10.to_))]] ?_ ?_
    · simp -implicitDefEqProofs only [RUNS, qindex, Nat.reduceAdd, Nat.reduceLeDiff, Nat.reduceSub, reduceIte, Nat.reduceEqDiff, Nat.reduceLT, reduceCtorEq, Nat.reduceMul, if_true, if_false, eq_self, ne_eq, env_bT, T_38, T_40, T_42, NsOp.pv_eq, Word.pv_eq, Chan.pv_eq, Target.pv_eq, P38_eq, Mount.pv_eq, P31_eq, Ns.pv_eq]
    refine AW.block ?_
    refine AW.weak (Weak.slots (L := [(1, .pv (.str cwd2)), (5, .ref 1 0), (7, .ref 2 0), (12, .pv (.slice (List.map Mount.pv n1.mounts_))), (13, .pv (.int .i64 (n1.mounts_.length : Int))), (14, .pv (.int .i64 i4)), (19, .pv (.slice (List.map Target.pv u10.to_))), (20, .pv (.int .i64 (u10.to_.length : Int))), (21, .pv (.int .i64 0))]) ⟨rfl, rfl, rfl, rfl, rfl, rfl, rfl, rfl, rfl, trivial⟩) ?_
    refine AW.loopI (α := Nat × Int × Str) (fun (_, i13, b14) => ⟨sl [(1, .pv (.str cwd2)), (5, .ref 1 0), (7, .ref 2 0), (12, .pv (.slice (List.map Mount.pv n1.mounts_))), (13, .pv (.int .i64 (n1.mounts_.length : Int))), (14, .pv (.int .i64 i4)), (19, .pv (.slice (List.map Target.pv u10.to_))), (20, .pv (.int .i64 (u10.to_.length : Int))), (21, .pv (.int .i64 i13))], 68, [.var [.pv (.int .i64 n1.id_), .pv (.int .i64 n1.root_.dev_), .pv (.int .i64 n1.root_.id_), .pv (.int .i64 n1.root_.fid_), .pv (.str n1.root_.path_), .pv (.str n1.root_.name_), .pv (.slice (List.map Mount.pv n1.mounts_))], .bld b14, .var [.pv (.int .i64 u10.from_.dev_), .pv (.int .i64 u10.from_.id_), .pv (.int .i64 u10.from_.fid_), .pv (.str u10.from_.path_), .pv (.str u10.from_.name_), .pv (.slice (List.map Target.pv u10.to_))]]⟩) (fun x => iter (F13_b3 u10 (iter (F13_b2 n1 cwd2) m8) i4) x.1 x.2 = some r3) (fun x => x.1) (BIG, (0, b5)) h ?_
    clear h
    intro ⟨n39, i13, b14⟩ h
    replace h := iter_some h; obtain ⟨m17, rfl, h⟩ := h
    rw [F13_b3] at h
    try dsimp only at h
    show AW _ _ _ _ ⟨sl [(1, .pv (.str cwd2)), (5, .ref 1 0), (7, .ref 2 0), (12, .pv (.slice (List.map Mount.pv n1.mounts_))), (13, .pv (.int .i64 (n1.mounts_.length : Int))), (14, .pv (.int .i64 i4)), (19, .pv (.slice (List.map Target.pv u10.to_))), (20, .pv (.int .i64 (u10.to_.length : Int))), (21, .pv (.int .i64 i13))], 68, [.var [.pv (.int .i64 n1.id_), .pv (.int .i64 n1.root_.dev_), .pv (.int .i64 n1.root_.id_), .pv (.int .i64 n1.root_.fid_), .pv (.str n1.root_.path_), .pv (.str n1.root_.name_), .pv (.slice (List.map Mount.pv n1.mounts_))], .bld b14, .var [.pv (.int .i64 u10.from_.dev_), .pv (.int .i64 u10.from_.id_), .pv (.int .i64 u10.from_.fid_), .pv (.str u10.from_.path_), .pv (.str u10.from_.name_), .pv (.slice (List.map Target.pv u10.to_))]]⟩
    refine AW.seq ?_
    refine AW.reg hS [(1, .pv (.str cwd2)), (5, .ref 1 0), (7, .ref 2 0), (12, .pv (.slice (List.map Mount.pv n1.mounts_))), (13, .pv (.int .i64 (n1.mounts_.length : Int))), (14, .pv (.int .i64 i4)), (19, .pv (.slice (List.map Target.pv u10.to_))), (20, .pv (.int .i64 (u10.to_.length : Int))), (21, .pv (.int .i64 i13)), (22, .pv (.bool (decide (i13 < (u10.to_.length : Int)))))] [.var [.pv (.int .i64 n1.id_), .pv (.int .i64 n1.root_.dev_), .pv (.int .i64 n1.root_.id_), .pv (.int .i64 n1.root_.fid_), .pv (.str n1.root_.path_), .pv (.str n1.root_.name_), .pv (.slice (List.map Mount.pv n1.mounts_))], .bld b14, .var [.pv (.int .i64 u10.from_.dev_), .pv (.int .i64 u10.from_.id_), .pv (.int .i64 u10.from_.fid_), .pv (.str u10.from_.path_), .pv (.str u10.from_.name_), .pv (.slice (List.map Target.pv u10.to_))]] ?_ ?_
    · simp -implicitDefEqProofs only [RUNS, qindex, Nat.reduceAdd, Nat.reduceLeDiff, Nat.reduceSub, reduceIte, Nat.reduceEqDiff, Nat.reduceLT, reduceCtorEq, Nat.reduceMul, if_true, if_false, eq_self, ne_eq, env_bT, T_3, NsOp.pv_eq, Word.pv_eq, Chan.pv_eq, Target.pv_eq, P38_eq, Mount.pv_eq, P31_eq, Ns.pv_eq, eqT_3]
    refine AW.seq ?_
    refine AW.cond (b := decide (i13 < (u10.to_.length : Int))) rfl (fun hb18 => ?_) (fun hb18 => ?_)
    · replace h := bif_t hb18 h
      refine AW.skip ?_
      refine AW.seq ?_
      refine AW.block ?_
      refine AW.seq ?_
      replace h := Option.bind_eq_some_iff.1 h; obtain ⟨u19, q20, h⟩ := h
      have f21 := lidx_f q20
      refine AW.reg hS [(1, .pv (.str cwd2)), (5, .ref 1 0), (7, .ref 2 0), (8, .pv (.int .i64 i13)), (9, .ref 3 0), (12, .pv (.slice (List.map Mount.pv n1.mounts_))), (13, .pv (.int .i64 (n1.mounts_.length : Int))), (14, .pv (.int .i64 i4)), (19, .pv (.slice (List.map Target.pv u10.to_))), (20, .pv (.int .i64 (u10.to_.length : Int))), (21, .pv (.int .i64 i13))] [.var [.pv (.int .i64 n1.id_), .pv (.int .i64 n1.root_.dev_), .pv (.int .i64 n1.root_.id_), .pv (.int .i64 n1.root_.fid_), .pv (.str n1.root_.path_), .pv (.str n1.root_.name_), .pv (.slice (List.map Mount.pv n1.mounts_))], .bld b14, .var [.pv (.int .i64 u10.from_.dev_), .pv (.int .i64 u10.from_.id_), .pv (.int .i64 u10.from_.fid_), .pv (.str u10.from_.path_), .pv (.str u10.from_.name_), .pv (.slice (List.map Target.pv u10.to_))], .var [.pv (.int .i64 u19.chan_.dev_), .pv (.int .i64 u19.chan_.id_), .pv (.int .i64 u19.chan_.fid_), .pv (.str u19.chan_.path_), .pv (.str u19.chan_.name_), .pv (.bool u19.create_)]] ?_ ?_
      · simp -implicitDefEqProofs only [RUNS, qindex, Nat.reduceAdd, Nat.reduceLeDiff, Nat.reduceSub, reduceIte, Nat.reduceEqDiff, Nat.reduceLT, reduceCtorEq, Nat.reduceMul, if_true, if_false, eq_self, ne_eq, env_bT, T_38, T_42, NsOp.pv_eq, Word.pv_eq, Chan.pv_eq, Target.pv_eq, P38_eq, Mount.pv_eq, P31_eq, Ns.pv_eq, f21.1, f21.2.1]
      refine AW.seq ?_
      refine AW.seq ?_
      replace h := Option.bind_eq_some_iff.1 h; obtain ⟨r22, q23, h⟩ := h
      have f24 := fun hg => c_F25 u19.chan_ u10.from_ r22 (guardO_t q23 hg)
      try dsimp only at f24
      refine AW.reg hS [(1, .pv (.str cwd2)), (5, .ref 1 0), (7, .ref 2 0), (8, .pv (.int .i64 i13)), (9, .ref 3 0), (12, .pv (.slice (List.map Mount.pv n1.mounts_))), (13, .pv (.int .i64 (n1.mounts_.length : Int))), (14, .pv (.int .i64 i4)), (19, .pv (.slice (List.map Target.pv u10.to_))), (20, .pv (.int .i64 (u10.to_.length : Int))), (21, .pv (.int .i64 i13)), (39, .pv (.bool ((decide (i13 = 0) && r22) && !u19.create_)))] [.var [.pv (.int .i64 n1.id_), .pv (.int .i64 n1.root_.dev_), .pv (.int .i64 n1.root_.id_), .pv (.int .i64 n1.root_.fid_), .pv (.str n1.root_.path_), .pv (.str n1.root_.name_), .pv (.slice (List.map Mount.pv n1.mounts_))], .bld b14, .var [.pv (.int .i64 u10.from_.dev_), .pv (.int .i64 u10.from_.id_), .pv (.int .i64 u10.from_.fid_), .pv (.str u10.from_.path_), .pv (.str u10.from_.name_), .pv (.slice (List.map Target.pv u10.to_))], .var [.pv (.int .i64 u19.chan_.dev_), .pv (.int .i64 u19.chan_.id_), .pv (.int .i64 u19.chan_.fid_), .pv (.str u19.chan_.path_), .pv (.str u19.chan_.name_), .pv (.bool u19.create_)]] ?_ ?_
      · clear h
        (simp -implicitDefEqProofs only [RUNS, qindex, Nat.reduceAdd, Nat.reduceLeDiff, Nat.reduceSub, reduceIte, Nat.reduceEqDiff, Nat.reduceLT, reduceCtorEq, Nat.reduceMul, if_true, if_false, eq_self, ne_eq, env_bT, T_3, T_4, T_30, T_40, T_42, NsOp.pv_eq, Word.pv_eq, Chan.pv_eq, Target.pv_eq, P38_eq, Mount.pv_eq, P31_eq, Ns.pv_eq, eqT_3, pf_25, f24]); repeat' (split <;> rename_i hb <;> (try simp only [HBS, ge_iff_le, gt_iff_lt] at hb) <;> simp -implicitDefEqProofs only [RUNS, qindex, Nat.reduceAdd, Nat.reduceLeDiff, Nat.reduceSub, reduceIte, Nat.reduceEqDiff, Nat.reduceLT, reduceCtorEq, Nat.reduceMul, if_true, if_false, eq_self, ne_eq, env_bT, T_3, T_4, T_30, T_40, T_42, NsOp.pv_eq, Word.pv_eq, Chan.pv_eq, Target.pv_eq, P38_eq, Mount.pv_eq, P31_eq, Ns.pv_eq, eqT_3, pf_25, f24, *, decide_true, decide_false, Decidable.not_not, not_false_eq_true, not_true_eq_false])
        all_goals (first | (simp only [BOOLS]; done) | (simp [*]; done) | ((try simp only [CLOS, beq_iff_eq, bne_iff_ne, ne_eq] at *) <;> omega) | (simp_all; done) | (simp_all <;> omega))
      refine AW.cond (b := ((decide (i13 = 0) && r22) && !u19.create_)) rfl (fun hb25 => ?_) (fun hb25 => ?_)
      · replace h := bif_t hb25 h
        refine AW.exit ?_
        refine AW.reg hS [(1, .pv (.str cwd2)), (5, .ref 1 0), (7, .ref 2 0), (12, .pv (.slice (List.map Mount.pv n1.mounts_))), (13, .pv (.int .i64 (n1.mounts_.length : Int))), (14, .pv (.int .i64 i4)), (19, .pv (.slice (List.map Target.pv u10.to_))), (20, .pv (.int .i64 (u10.to_.length : Int))), (21, .pv (.int .i64 (IntKind.wrap .i64 (i13 + 1))))] [.var [.pv (.int .i64 n1.id_), .pv (.int .i64 n1.root_.dev_), .pv (.int .i64 n1.root_.id_), .pv (.int .i64 n1.root_.fid_), .pv (.str n1.root_.path_), .pv (.str n1.root_.name_), .pv (.slice (List.map Mount.pv n1.mounts_))], .bld b14, .var [.pv (.int .i64 u10.from_.dev_), .pv (.int .i64 u10.from_.id_), .pv (.int .i64 u10.from_.fid_), .pv (.str u10.from_.path_), .pv (.str u10.from_.name_), .pv (.slice (List.map Target.pv u10.to_))], .var [.pv (.int .i64 u19.chan_.dev_), .pv (.int .i64 u19.chan_.id_), .pv (.int .i64 u19.chan_.fid_), .pv (.str u19.chan_.path_), .pv (.str u19.chan_.name_), .pv (.bool u19.create_)]] ?_ ?_
        · simp -implicitDefEqProofs only [RUNS, qindex, Nat.reduceAdd, Nat.reduceLeDiff, Nat.reduceSub, reduceIte, Nat.reduceEqDiff, Nat.reduceLT, reduceCtorEq, Nat.reduceMul, if_true, if_false, eq_self, ne_eq, env_bT, T_3, NsOp.pv_eq, Word.pv_eq, Chan.pv_eq, Target.pv_eq, P38_eq, Mount.pv_eq, P31_eq, Ns.pv_eq, eqT_3]
        exact ⟨(m17, (IntKind.wrap .i64 (i13 + 1), b14)), h, (Weak.norm (m := 3) (Nat.le_of_ble_eq_true rfl) ⟨rfl, rfl, rfl, rfl, rfl, rfl, rfl, rfl, rfl, trivial⟩ rfl rfl rfl), Nat.lt_succ_self _⟩
      · replace h := bif_f hb25 h
        refine AW.skip ?_
        refine AW.seq ?_
        refine AW.reg hS [(1, .pv (.str cwd2)), (5, .ref 1 0), (7, .ref 2 0), (8, .pv (.int .i64 i13)), (9, .ref 3 0), (10, .ref 4 0), (12, .pv (.slice (List.map Mount.pv n1.mounts_))), (13, .pv (.int .i64 (n1.mounts_.length : Int))), (14, .pv (.int .i64 i4)), (19, .pv (.slice (List.map Target.pv u10.to_))), (20, .pv (.int .i64 (u10.to_.length : Int))), (21, .pv (.int .i64 i13))] [.var [.pv (.int .i64 n1.id_), .pv (.int .i64 n1.root_.dev_), .pv (.int .i64 n1.root_.id_), .pv (.int .i64 n1.root_.fid_), .pv (.str n1.root_.path_), .pv (.str n1.root_.name_), .pv (.slice (List.map Mount.pv n1.mounts_))], .bld b14, .var [.pv (.int .i64 u10.from_.dev_), .pv (.int .i64 u10.from_.id_), .pv (.int .i64 u10.from_.fid_), .pv (.str u10.from_.path_), .pv (.str u10.from_.name_), .pv (.slice (List.map Target.pv u10.to_))], .var [.pv (.int .i64 u19.chan_.dev_), .pv (.int .i64 u19.chan_.id_), .pv (.int .i64 u19.chan_.fid_), .pv (.str u19.chan_.path_), .pv (.str u19.chan_.name_), .pv (.bool u19.create_)], .var [.pv (.int .i64 1), .pv (.int .i64 0), .pv (.str u19.chan_.name_), .pv (.str u10.from_.name_)]] ?_ ?_
        · simp -implicitDefEqProofs only [RUNS, qindex, Nat.reduceAdd, Nat.reduceLeDiff, Nat.reduceSub, reduceIte, Nat.reduceEqDiff, Nat.reduceLT, reduceCtorEq, Nat.reduceMul, if_true, if_false, eq_self, ne_eq, env_bT, T_9, T_23, T_30, T_40, T_42, NsOp.pv_eq, Word.pv_eq, Chan.pv_eq, Target.pv_eq, P38_eq, Mount.pv_eq, P31_eq, Ns.pv_eq]
        refine AW.seqM ⟨sl [(1, .pv (.str cwd2)), (5, .ref 1 0), (7, .ref 2 0), (9, .ref 3 0), (10, .ref 4 0), (12, .pv (.slice (List.map Mount.pv n1.mounts_))), (13, .pv (.int .i64 (n1.mounts_.length : Int))), (14, .pv (.int .i64 i4)), (19, .pv (.slice (List.map Target.pv u10.to_))), (20, .pv (.int .i64 (u10.to_.length : Int))), (21, .pv (.int .i64 i13))], 68, [.var [.pv (.int .i64 n1.id_), .pv (.int .i64 n1.root_.dev_), .pv (.int .i64 n1.root_.id_), .pv (.int .i64 n1.root_.fid_), .pv (.str n1.root_.path_), .pv (.str n1.root_.name_), .pv (.slice (List.map Mount.pv n1.mounts_))], .bld b14, .var [.pv (.int .i64 u10.from_.dev_), .pv (.int .i64 u10.from_.id_), .pv (.int .i64 u10.from_.fid_), .pv (.str u10.from_.path_), .pv (.str u10.from_.name_), .pv (.slice (List.map Target.pv u10.to_))], .var [.pv (.int .i64 u19.chan_.dev_), .pv (.int .i64 u19.chan_.id_), .pv (.int .i64 u19.chan_.fid_), .pv (.str u19.chan_.path_), .pv (.str u19.chan_.name_), .pv (.bool u19.create_)], .var [.pv (.int .i64 1), .pv (.int .i64 (bif decide (0 < i13) then 2 else 0)), .pv (.str u19.chan_.name_), .pv (.str u10.from_.name_)]]⟩ ?_ ?_
        · refine AW.seq ?_
          refine AW.reg hS [(1, .pv (.str cwd2)), (5, .ref 1 0), (7, .ref 2 0), (9, .ref 3 0), (10, .ref 4 0), (12, .pv (.slice (List.map Mount.pv n1.mounts_))), (13, .pv (.int .i64 (n1.mounts_.length : Int))), (14, .pv (.int .i64 i4)), (19, .pv (.slice (List.map Target.pv u10.to_))), (20, .pv (.int .i64 (u10.to_.length : Int))), (21, .pv (.int .i64 i13)), (48, .pv (.bool (decide (0 < i13))))] [.var [.pv (.int .i64 n1.id_), .pv (.int .i64 n1.root_.dev_), .pv (.int .i64 n1.root_.id_), .pv (.int .i64 n1.root_.fid_), .pv (.str n1.root_.path_), .pv (.str n1.root_.name_), .pv (.slice (List.map Mount.pv n1.mounts_))], .bld b14, .var [.pv (.int .i64 u10.from_.dev_), .pv (.int .i64 u10.from_.id_), .pv (.int .i64 u10.from_.fid_), .pv (.str u10.from_.path_), .pv (.str u10.from_.name_), .pv (.slice (List.map Target.pv u10.to_))], .var [.pv (.int .i64 u19.chan_.dev_), .pv (.int .i64 u19.chan_.id_), .pv (.int .i64 u19.chan_.fid_), .pv (.str u19.chan_.path_), .pv (.str u19.chan_.name_), .pv (.bool u19.create_)], .var [.pv (.int .i64 1), .pv (.int .i64 0), .pv (.str u19.chan_.name_), .pv (.str u10.from_.name_)]] ?_ ?_
          · simp -implicitDefEqProofs only [RUNS, qindex, Nat.reduceAdd, Nat.reduceLeDiff, Nat.reduceSub, reduceIte, Nat.reduceEqDiff, Nat.reduceLT, reduceCtorEq, Nat.reduceMul, if_true, if_false, eq_self, ne_eq, env_bT, T_3, NsOp.pv_eq, Word.pv_eq, Chan.pv_eq, Target.pv_eq, P38_eq, Mount.pv_eq, P31_eq, Ns.pv_eq, eqT_3]
          refine AW.cond (b := decide (0 < i13)) rfl (fun hb26 => ?_) (fun hb26 => ?_)
          · refine AW.reg hS [(1, .pv (.str cwd2)), (5, .ref 1 0), (7, .ref 2 0), (9, .ref 3 0), (10, .ref 4 0), (12, .pv (.slice (List.map Mount.pv n1.mounts_))), (13, .pv (.int .i64 (n1.mounts_.length : Int))), (14, .pv (.int .i64 i4)), (19, .pv (.slice (List.map Target.pv u10.to_))), (20, .pv (.int .i64 (u10.to_.length : Int))), (21, .pv (.int .i64 i13))] [.var [.pv (.int .i64 n1.id_), .pv (.int .i64 n1.root_.dev_), .pv (.int .i64 n1.root_.id_), .pv (.int .i64 n1.root_.fid_), .pv (.str n1.root_.path_), .pv (.str n1.root_.name_), .pv (.slice (List.map Mount.pv n1.mounts_))], .bld b14, .var [.pv (.int .i64 u10.from_.dev_), .pv (.int .i64 u10.from_.id_), .pv (.int .i64 u10.from_.fid_), .pv (.str u10.from_.path_), .pv (.str u10.from_.name_), .pv (.slice (List.map Target.pv u10.to_))], .var [.pv (.int .i64 u19.chan_.dev_), .pv (.int .i64 u19.chan_.id_), .pv (.int .i64 u19.chan_.fid_), .pv (.str u19.chan_.path_), .pv (.str u19.chan_.name_), .pv (.bool u19.create_)], .var [.pv (.int .i64 1), .pv (.int .i64 2), .pv (.str u19.chan_.name_), .pv (.str u10.from_.name_)]] ?_ ?_
            · simp -implicitDefEqProofs only [RUNS, qindex, Nat.reduceAdd, Nat.reduceLeDiff, Nat.reduceSub, reduceIte, Nat.reduceEqDiff, Nat.reduceLT, reduceCtorEq, Nat.reduceMul, if_true, if_false, eq_self, ne_eq, env_bT, T_3, T_23, NsOp.pv_eq, Word.pv_eq, Chan.pv_eq, Target.pv_eq, P38_eq, Mount.pv_eq, P31_eq, Ns.pv_eq]
            exact Weak.of_eq (Weak.slots (L := [(1, .pv (.str cwd2)), (5, .ref 1 0), (7, .ref 2 0), (9, .ref 3 0), (10, .ref 4 0), (12, .pv (.slice (List.map Mount.pv n1.mounts_))), (13, .pv (.int .i64 (n1.mounts_.length : Int))), (14, .pv (.int .i64 i4)), (19, .pv (.slice (List.map Target.pv u10.to_))), (20, .pv (.int .i64 (u10.to_.length : Int))), (21, .pv (.int .i64 i13))]) ⟨rfl, rfl, rfl, rfl, rfl, rfl, rfl, rfl, rfl, rfl, rfl, trivial⟩) (by simp only [hb26, cond_true, cond_false, Bool.true_or, Bool.false_or, Bool.true_and, Bool.false_and, Bool.or_true, Bool.or_false, Bool.and_true, Bool.and_false, Bool.not_true, Bool.not_false])
          · refine AW.skip ?_
            exact Weak.of_eq (Weak.slots (L := [(1, .pv (.str cwd2)), (5, .ref 1 0), (7, .ref 2 0), (9, .ref 3 0), (10, .ref 4 0), (12, .pv (.slice (List.map Mount.pv n1.mounts_))), (13, .pv (.int .i64 (n1.mounts_.length : Int))), (14, .pv (.int .i64 i4)), (19, .pv (.slice (List.map Target.pv u10.to_))), (20, .pv (.int .i64 (u10.to_.length : Int))), (21, .pv (.int .i64 i13))]) ⟨rfl, rfl, rfl, rfl, rfl, rfl, rfl, rfl, rfl, rfl, rfl, trivial⟩) (by simp only [hb26, cond_true, cond_false, Bool.true_or, Bool.false_or, Bool.true_and, Bool.false_and, Bool.or_true, Bool.or_false, Bool.and_true, Bool.and_false, Bool.not_true, Bool.not_false])
        refine AW.seqM ⟨sl [(1, .pv (.str cwd2)), (5, .ref 1 0), (7, .ref 2 0), (10, .ref 4 0), (12, .pv (.slice (List.map Mount.pv n1.mounts_))), (13, .pv (.int .i64 (n1.mounts_.length : Int))), (14, .pv (.int .i64 i4)), (19, .pv (.slice (List.map Target.pv u10.to_))), (20, .pv (.int .i64 (u10.to_.length : Int))), (21, .pv (.int .i64 i13))], 68, [.var [.pv (.int .i64 n1.id_), .pv (.int .i64 n1.root_.dev_), .pv (.int .i64 n1.root_.id_), .pv (.int .i64 n1.root_.fid_), .pv (.str n1.root_.path_), .pv (.str n1.root_.name_), .pv (.slice (List.map Mount.pv n1.mounts_))], .bld b14, .var [.pv (.int .i64 u10.from_.dev_), .pv (.int .i64 u10.from_.id_), .pv (.int .i64 u10.from_.fid_), .pv (.str u10.from_.path_), .pv (.str u10.from_.name_), .pv (.slice (List.map Target.pv u10.to_))], .var [.pv (.int .i64 u19.chan_.dev_), .pv (.int .i64 u19.chan_.id_), .pv (.int .i64 u19.chan_.fid_), .pv (.str u19.chan_.path_), .pv (.str u19.chan_.name_), .pv (.bool u19.create_)], .var [.pv (.int .i64 1), .pv (.int .i64 (bif u19.create_ then IntKind.wrap .i64 ((bif decide (0 < i13) then 2 else 0) + 4) else (bif decide (0 < i13) then 2 else 0))), .pv (.str u19.chan_.name_), .pv (.str u10.from_.name_)]]⟩ ?_ ?_
        · refine AW.seq ?_
          refine AW.reg hS [(1, .pv (.str cwd2)), (5, .ref 1 0), (7, .ref 2 0), (10, .ref 4 0), (12, .pv (.slice (List.map Mount.pv n1.mounts_))), (13, .pv (.int .i64 (n1.mounts_.length : Int))), (14, .pv (.int .i64 i4)), (19, .pv (.slice (List.map Target.pv u10.to_))), (20, .pv (.int .i64 (u10.to_.length : Int))), (21, .pv (.int .i64 i13)), (51, .pv (.bool u19.create_))] [.var [.pv (.int .i64 n1.id_), .pv (.int .i64 n1.root_.dev_), .pv (.int .i64 n1.root_.id_), .pv (.int .i64 n1.root_.fid_), .pv (.str n1.root_.path_), .pv (.str n1.root_.name_), .pv (.slice (List.map Mount.pv n1.mounts_))], .bld b14, .var [.pv (.int .i64 u10.from_.dev_), .pv (.int .i64 u10.from_.id_), .pv (.int .i64 u10.from_.fid_), .pv (.str u10.from_.path_), .pv (.str u10.from_.name_), .pv (.slice (List.map Target.pv u10.to_))], .var [.pv (.int .i64 u19.chan_.dev_), .pv (.int .i64 u19.chan_.id_), .pv (.int .i64 u19.chan_.fid_), .pv (.str u19.chan_.path_), .pv (.str u19.chan_.name_), .pv (.bool u19.create_)], .var [.pv (.int .i64 1), .pv (.int .i64 (bif decide (0 < i13) then 2 else 0)), .pv (.str u19.chan_.name_), .pv (.str u10.from_.name_)]] ?_ ?_
          · simp -implicitDefEqProofs only [RUNS, qindex, Nat.reduceAdd, Nat.reduceLeDiff, Nat.reduceSub, reduceIte, Nat.reduceEqDiff, Nat.reduceLT, reduceCtorEq, Nat.reduceMul, if_true, if_false, eq_self, ne_eq, env_bT, T_4, T_42, NsOp.pv_eq, Word.pv_eq, Chan.pv_eq, Target.pv_eq, P38_eq, Mount.pv_eq, P31_eq, Ns.pv_eq]
          refine AW.cond (b := u19.create_) rfl (fun hb27 => ?_) (fun hb27 => ?_)
          · refine AW.reg hS [(1, .pv (.str cwd2)), (5, .ref 1 0), (7, .ref 2 0), (10, .ref 4 0), (12, .pv (.slice (List.map Mount.pv n1.mounts_))), (13, .pv (.int .i64 (n1.mounts_.length : Int))), (14, .pv (.int .i64 i4)), (19, .pv (.slice (List.map Target.pv u10.to_))), (20, .pv (.int .i64 (u10.to_.length : Int))), (21, .pv (.int .i64 i13))] [.var [.pv (.int .i64 n1.id_), .pv (.int .i64 n1.root_.dev_), .pv (.int .i64 n1.root_.id_), .pv (.int .i64 n1.root_.fid_), .pv (.str n1.root_.path_), .pv (.str n1.root_.name_), .pv (.slice (List.map Mount.pv n1.mounts_))], .bld b14, .var [.pv (.int .i64 u10.from_.dev_), .pv (.int .i64 u10.from_.id_), .pv (.int .i64 u10.from_.fid_), .pv (.str u10.from_.path_), .pv (.str u10.from_.name_), .pv (.slice (List.map Target.pv u10.to_))], .var [.pv (.int .i64 u19.chan_.dev_), .pv (.int .i64 u19.chan_.id_), .pv (.int .i64 u19.chan_.fid_), .pv (.str u19.chan_.path_), .pv (.str u19.chan_.name_), .pv (.bool u19.create_)], .var [.pv (.int .i64 1), .pv (.int .i64 (IntKind.wrap .i64 ((bif decide (0 < i13) then 2 else 0) + 4))), .pv (.str u19.chan_.name_), .pv (.str u10.from_.name_)]] ?_ ?_
            · simp -implicitDefEqProofs only [RUNS, qindex, Nat.reduceAdd, Nat.reduceLeDiff, Nat.reduceSub, reduceIte, Nat.reduceEqDiff, Nat.reduceLT, reduceCtorEq, Nat.reduceMul, if_true, if_false, eq_self, ne_eq, env_bT, T_3, T_23, NsOp.pv_eq, Word.pv_eq, Chan.pv_eq, Target.pv_eq, P38_eq, Mount.pv_eq, P31_eq, Ns.pv_eq, eqT_3]
            exact Weak.of_eq (Weak.slots (L := [(1, .pv (.str cwd2)), (5, .ref 1 0), (7, .ref 2 0), (10, .ref 4 0), (12, .pv (.slice (List.map Mount.pv n1.mounts_))), (13, .pv (.int .i64 (n1.mounts_.length : Int))), (14, .pv (.int .i64 i4)), (19, .pv (.slice (List.map Target.pv u10.to_))), (20, .pv (.int .i64 (u10.to_.length : Int))), (21, .pv (.int .i64 i13))]) ⟨rfl, rfl, rfl, rfl, rfl, rfl, rfl, rfl, rfl, rfl, trivial⟩) (by simp only [hb27, cond_true, cond_false, Bool.true_or, Bool.false_or, Bool.true_and, Bool.false_and, Bool.or_true, Bool.or_false, Bool.and_true, Bool.and_false, Bool.not_true, Bool.not_false])
          · refine AW.skip ?_
            exact Weak.of_eq (Weak.slots (L := [(1, .pv (.str cwd2)), (5, .ref 1 0), (7, .ref 2 0), (10, .ref 4 0), (12, .pv (.slice (List.map Mount.pv n1.mounts_))), (13, .pv (.int .i64 (n1.mounts_.length : Int))), (14, .pv (.int .i64 i4)), (19, .pv (.slice (List.map Target.pv u10.to_))), (20, .pv (.int .i64 (u10.to_.length : Int))), (21, .pv (.int .i64 i13))]) ⟨rfl, rfl, rfl, rfl, rfl, rfl, rfl, rfl, rfl, rfl, trivial⟩) (by simp only [hb27, cond_true, cond_false, Bool.true_or, Bool.false_or, Bool.true_and, Bool.false_and, Bool.or_true, Bool.or_false, Bool.and_true, Bool.and_false, Bool.not_true, Bool.not_false])
        replace h := Option.bind_eq_some_iff.1 h; obtain ⟨r28, q29, h⟩ := h
        have f30 := c_F23 (NsOp.mk 1 (bif u19.create_ then IntKind.wrap .i64 ((bif decide (0 < i13) then 2 else 0) + 4) else (bif decide (0 < i13) then 2 else 0)) u19.chan_.name_ u10.from_.name_) r28 q29
        try dsimp only at f30
        replace h := Option.bind_eq_some_iff.1 h; obtain ⟨s31, q32, h⟩ := h
        have f33 := catO_f q32
        try simp only [List.length_cons, List.length_nil, Nat.zero_add, Nat.reduceAdd, Nat.reduceLeDiff, Nat.add_zero, Nat.reduceMul] at f33
        replace h := Option.bind_eq_some_iff.1 h; obtain ⟨⟨n34, c35⟩, q36, h⟩ := h
        dsimp only at h
        have f37 := c_L_WriteString b14 s31 n34 c35 q36
        try dsimp only at f37
        have e38 : ecall O [.var [.pv (.int .i64 n1.id_), .pv (.int .i64 n1.root_.dev_), .pv (.int .i64 n1.root_.id_), .pv (.int .i64 n1.root_.fid_), .pv (.str n1.root_.path_), .pv (.str n1.root_.name_), .pv (.slice (List.map Mount.pv n1.mounts_))], .bld b14, .var [.pv (.int .i64 u10.from_.dev_), .pv (.int .i64 u10.from_.id_), .pv (.int .i64 u10.from_.fid_), .pv (.str u10.from_.path_), .pv (.str u10.from_.name_), .pv (.slice (List.map Target.pv u10.to_))], .var [.pv (.int .i64 u19.chan_.dev_), .pv (.int .i64 u19.chan_.id_), .pv (.int .i64 u19.chan_.fid_), .pv (.str u19.chan_.path_), .pv (.str u19.chan_.name_), .pv (.bool u19.create_)], .var [.pv (.int .i64 1), .pv (.int .i64 (bif u19.create_ then IntKind.wrap .i64 ((bif decide (0 < i13) then 2 else 0) + 4) else (bif decide (0 < i13) then 2 else 0))), .pv (.str u19.chan_.name_), .pv (.str u10.from_.name_)]] 26 [.ref 1 0, .pv (.str s31)] = some (retAV [.pv (.int .i64 n34), .pv (.nil)], [.var [.pv (.int .i64 n1.id_), .pv (.int .i64 n1.root_.dev_), .pv (.int .i64 n1.root_.id_), .pv (.int .i64 n1.root_.fid_), .pv (.str n1.root_.path_), .pv (.str n1.root_.name_), .pv (.slice (List.map Mount.pv n1.mounts_))], .bld c35, .var [.pv (.int .i64 u10.from_.dev_), .pv (.int .i64 u10.from_.id_), .pv (.int .i64 u10.from_.fid_), .pv (.str u10.from_.path_), .pv (.str u10.from_.name_), .pv (.slice (List.map Target.pv u10.to_))], .var [.pv (.int .i64 u19.chan_.dev_), .pv (.int .i64 u19.chan_.id_), .pv (.int .i64 u19.chan_.fid_), .pv (.str u19.chan_.path_), .pv (.str u19.chan_.name_), .pv (.bool u19.create_)], .var [.pv (.int .i64 1), .pv (.int .i64 (bif u19.create_ then IntKind.wrap .i64 ((bif decide (0 < i13) then 2 else 0) + 4) else (bif decide (0 < i13) then 2 else 0))), .pv (.str u19.chan_.name_), .pv (.str u10.from_.name_)]]) := ecall_eq rfl rfl rfl f37 rfl rfl rfl
        refine AW.reg hS [(1, .pv (.str cwd2)), (5, .ref 1 0), (7, .ref 2 0), (12, .pv (.slice (List.map Mount.pv n1.mounts_))), (13, .pv (.int .i64 (n1.mounts_.length : Int))), (14, .pv (.int .i64 i4)), (19, .pv (.slice (List.map Target.pv u10.to_))), (20, .pv (.int .i64 (u10.to_.length : Int))), (21, .pv (.int .i64 i13))] [.var [.pv (.int .i64 n1.id_), .pv (.int .i64 n1.root_.dev_), .pv (.int .i64 n1.root_.id_), .pv (.int .i64 n1.root_.fid_), .pv (.str n1.root_.path_), .pv (.str n1.root_.name_), .pv (.slice (List.map Mount.pv n1.mounts_))], .bld c35, .var [.pv (.int .i64 u10.from_.dev_), .pv (.int .i64 u10.from_.id_), .pv (.int .i64 u10.from_.fid_), .pv (.str u10.from_.path_), .pv (.str u10.from_.name_), .pv (.slice (List.map Target.pv u10.to_))], .var [.pv (.int .i64 u19.chan_.dev_), .pv (.int .i64 u19.chan_.id_), .pv (.int .i64 u19.chan_.fid_), .pv (.str u19.chan_.path_), .pv (.str u19.chan_.name_), .pv (.bool u19.create_)], .var [.pv (.int .i64 1), .pv (.int .i64 (bif u19.create_ then IntKind.wrap .i64 ((bif decide (0 < i13) then 2 else 0) + 4) else (bif decide (0 < i13) then 2 else 0))), .pv (.str u19.chan_.name_), .pv (.str u10.from_.name_)]] ?_ ?_
        · simp -implicitDefEqProofs only [RUNS, qindex, Nat.reduceAdd, Nat.reduceLeDiff, Nat.reduceSub, reduceIte, Nat.reduceEqDiff, Nat.reduceLT, reduceCtorEq, Nat.reduceMul, if_true, if_false, eq_self, ne_eq, env_bT, T_9, T_23, T_55, NsOp.pv_eq, Word.pv_eq, Chan.pv_eq, Target.pv_eq, P38_eq, Mount.pv_eq, P31_eq, Ns.pv_eq, pf_23, f30, eqT_9, f33.1, f33.2, pf_26, e38]
        refine AW.reg hS [(1, .pv (.str cwd2)), (5, .ref 1 0), (7, .ref 2 0), (12, .pv (.slice (List.map Mount.pv n1.mounts_))), (13, .pv (.int .i64 (n1.mounts_.length : Int))), (14, .pv (.int .i64 i4)), (19, .pv (.slice (List.map Target.pv u10.to_))), (20, .pv (.int .i64 (u10.to_.length : Int))), (21, .pv (.int .i64 (IntKind.wrap .i64 (i13 + 1))))] [.var [.pv (.int .i64 n1.id_), .pv (.int .i64 n1.root_.dev_), .pv (.int .i64 n1.root_.id_), .pv (.int .i64 n1.root_.fid_), .pv (.str n1.root_.path_), .pv (.str n1.root_.name_), .pv (.slice (List.map Mount.pv n1.mounts_))], .bld c35, .var [.pv (.int .i64 u10.from_.dev_), .pv (.int .i64 u10.from_.id_), .pv (.int .i64 u10.from_.fid_), .pv (.str u10.from_.path_), .pv (.str u10.from_.name_), .pv (.slice (List.map Target.pv u10.to_))], .var [.pv (.int .i64 u19.chan_.dev_), .pv (.int .i64 u19.chan_.id_), .pv (.int .i64 u19.chan_.fid_), .pv (.str u19.chan_.path_), .pv (.str u19.chan_.name_), .pv (.bool u19.create_)], .var [.pv (.int .i64 1), .pv (.int .i64 (bif u19.create_ then IntKind.wrap .i64 ((bif decide (0 < i13) then 2 else 0) + 4) else (bif decide (0 < i13) then 2 else 0))), .pv (.str u19.chan_.name_), .pv (.str u10.from_.name_)]] ?_ ?_
        · simp -implicitDefEqProofs only [RUNS, qindex, Nat.reduceAdd, Nat.reduceLeDiff, Nat.reduceSub, reduceIte, Nat.reduceEqDiff, Nat.reduceLT, reduceCtorEq, Nat.reduceMul, if_true, if_false, eq_self, ne_eq, env_bT, T_3, NsOp.pv_eq, Word.pv_eq, Chan.pv_eq, Target.pv_eq, P38_eq, Mount.pv_eq, P31_eq, Ns.pv_eq, eqT_3]
        exact ⟨(m17, (IntKind.wrap .i64 (i13 + 1), c35)), h, (Weak.norm (m := 3) (Nat.le_of_ble_eq_true rfl) ⟨rfl, rfl, rfl, rfl, rfl, rfl, rfl, rfl, rfl, trivial⟩ rfl rfl rfl), Nat.lt_succ_self _⟩
    · replace h := bif_f hb18 h
      refine AW.exit ?_
      refine AW.reg hS [(1, .pv (.str cwd2)), (5, .ref 1 0), (12, .pv (.slice (List.map Mount.pv n1.mounts_))), (13, .pv (.int .i64 (n1.mounts_.length : Int))), (14, .pv (.int .i64 (IntKind.wrap .i64 (i4 + 1))))] [.var [.pv (.int .i64 n1.id_), .pv (.int .i64 n1.root_.dev_), .pv (.int .i64 n1.root_.id_), .pv (.int .i64 n1.root_.fid_), .pv (.str n1.root_.path_), .pv (.str n1.root_.name_), .pv (.slice (List.map Mount.pv n1.mounts_))], .bld b14, .var [.pv (.int .i64 u10.from_.dev_), .pv (.int .i64 u10.from_.id_), .pv (.int .i64 u10.from_.fid_), .pv (.str u10.from_.path_), .pv (.str u10.from_.name_), .pv (.slice (List.map Target.pv u10.to_))]] ?_ ?_
      · simp -implicitDefEqProofs only [RUNS, qindex, Nat.reduceAdd, Nat.reduceLeDiff, Nat.reduceSub, reduceIte, Nat.reduceEqDiff, Nat.reduceLT, reduceCtorEq, Nat.reduceMul, if_true, if_false, eq_self, ne_eq, env_bT, T_3, NsOp.pv_eq, Word.pv_eq, Chan.pv_eq, Target.pv_eq, P38_eq, Mount.pv_eq, P31_eq, Ns.pv_eq, eqT_3]
      exact ⟨(m8, (IntKind.wrap .i64 (i4 + 1), b14)), h, (Weak.norm (m := 2) (Nat.le_of_ble_eq_true rfl) ⟨rfl, rfl, rfl, rfl, rfl, trivial⟩ rfl rfl rfl), Nat.lt_succ_self _⟩
  · replace h := bif_f hb9 h
    refine AW.exit ?_
    refine AW.seq ?_
    replace h := Option.bind_eq_some_iff.1 h; obtain ⟨r40, q41, h⟩ := h
    have f42 := c_F23 (NsOp.mk 5 0 cwd2 []) r40 q41
    try dsimp only at f42
    replace h := Option.bind_eq_some_iff.1 h; obtain ⟨s43, q44, h⟩ := h
    have f45 := catO_f q44
    try simp only [List.length_cons, List.length_nil, Nat.zero_add, Nat.reduceAdd, Nat.reduceLeDiff, Nat.add_zero, Nat.reduceMul] at f45
    replace h := Option.bind_eq_some_iff.1 h; obtain ⟨⟨n46, c47⟩, q48, h⟩ := h
    dsimp only at h
    have f49 := c_L_WriteString b5 s43 n46 c47 q48
    try dsimp only at f49
    have e50 : ecall O [.var [.pv (.int .i64 n1.id_), .pv (.int .i64 n1.root_.dev_), .pv (.int .i64 n1.root_.id_), .pv (.int .i64 n1.root_.fid_), .pv (.str n1.root_.path_), .pv (.str n1.root_.name_), .pv (.slice (List.map Mount.pv n1.mounts_))], .bld b5] 26 [.ref 1 0, .pv (.str s43)] = some (retAV [.pv (.int .i64 n46), .pv (.nil)], [.var [.pv (.int .i64 n1.id_), .pv (.int .i64 n1.root_.dev_), .pv (.int .i64 n1.root_.id_), .pv (.int .i64 n1.root_.fid_), .pv (.str n1.root_.path_), .pv (.str n1.root_.name_), .pv (.slice (List.map Mount.pv n1.mounts_))], .bld c47]) := ecall_eq rfl rfl rfl f49 rfl rfl rfl
    refine AW.reg hS [(5, .ref 1 0)] [.var [.pv (.int .i64 n1.id_), .pv (.int .i64 n1.root_.dev_), .pv (.int .i64 n1.root_.id_), .pv (.int .i64 n1.root_.fid_), .pv (.str n1.root_.path_), .pv (.str n1.root_.name_), .pv (.slice (List.map Mount.pv n1.mounts_))], .bld c47] ?_ ?_
    · simp -implicitDefEqProofs only [RUNS, qindex, Nat.reduceAdd, Nat.reduceLeDiff, Nat.reduceSub, reduceIte, Nat.reduceEqDiff, Nat.reduceLT, reduceCtorEq, Nat.reduceMul, if_true, if_false, eq_self, ne_eq, env_bT, T_9, T_23, T_55, NsOp.pv_eq, Word.pv_eq, Chan.pv_eq, Target.pv_eq, P38_eq, Mount.pv_eq, P31_eq, Ns.pv_eq, pf_23, f42, eqT_9, f45.1, f45.2, pf_26, e50]
    refine AW.seq ?_
    replace h := Option.bind_eq_some_iff.1 h; obtain ⟨s51, q52, h⟩ := h
    have f53 := c_L_String c47 s51 q52
    try dsimp only at f53
    have e54 : ecall O [.var [.pv (.int .i64 n1.id_), .pv (.int .i64 n1.root_.dev_), .pv (.int .i64 n1.root_.id_), .pv (.int .i64 n1.root_.fid_), .pv (.str n1.root_.path_), .pv (.str n1.root_.name_), .pv (.slice (List.map Mount.pv n1.mounts_))], .bld c47] 27 [.ref 1 0] = some (retAV [.pv (.str s51)], [.var [.pv (.int .i64 n1.id_), .pv (.int .i64 n1.root_.dev_), .pv (.int .i64 n1.root_.id_), .pv (.int .i64 n1.root_.fid_), .pv (.str n1.root_.path_), .pv (.str n1.root_.name_), .pv (.slice (List.map Mount.pv n1.mounts_))], .gone]) := ecall_eq rfl rfl rfl f53 rfl rfl rfl
    refine AW.reg hS [(4, .pv (.str s51))] [.var [.pv (.int .i64 n1.id_), .pv (.int .i64 n1.root_.dev_), .pv (.int .i64 n1.root_.id_), .pv (.int .i64 n1.root_.fid_), .pv (.str n1.root_.path_), .pv (.str n1.root_.name_), .pv (.slice (List.map Mount.pv n1.mounts_))], .gone] ?_ ?_
    · simp -implicitDefEqProofs only [RUNS, qindex, Nat.reduceAdd, Nat.reduceLeDiff, Nat.reduceSub, reduceIte, Nat.reduceEqDiff, Nat.reduceLT, reduceCtorEq, Nat.reduceMul, if_true, if_false, eq_self, ne_eq, env_bT, T_55, NsOp.pv_eq, Word.pv_eq, Chan.pv_eq, Target.pv_eq, P38_eq, Mount.pv_eq, P31_eq, Ns.pv_eq, pf_27, e54]
    refine AW.ret ?_
    cases h
    show finish _ _ _ _ _ = _
    first | rfl | (simp [finish, resOf, renArgs, toPV, selObjs, sl])

set_option maxHeartbeats 4000000 in
theorem g_F9 {O : Orc} (hS : Sound env O) (hpf : O.pf = pfn) (c_F10 : C_F10 O) (c_F20 : C_F20 O) (c_F16 : C_F16 O) (c_F13 : C_F13 O)  (r1 : Bool) (h : F9 = some r1) : Good env 9 [] [] [.pv (.bool r1)] [] := by
  have pf_10 : O.pf 10 = true := by rw [hpf]; rfl
  have pf_13 : O.pf 13 = true := by rw [hpf]; rfl
  have pf_16 : O.pf 16 = true := by rw [hpf]; rfl
  have pf_20 : O.pf 20 = true := by rw [hpf]; rfl
  refine Good.start (fn := Tryd.f9) (N := 56) rfl rfl rfl (by simp) [] _ rfl rfl ?_
  rw [F9] at h
  refine AW.seq ?_
  refine AW.reg hS [] [] ?_ ?_
  · simp -implicitDefEqProofs only [RUNS, qindex, Nat.reduceAdd, Nat.reduceLeDiff, Nat.reduceSub, reduceIte, Nat.reduceEqDiff, Nat.reduceLT, reduceCtorEq, Nat.reduceMul, if_true, if_false, eq_self, ne_eq, env_bT, NsOp.pv_eq, Word.pv_eq, Chan.pv_eq, Target.pv_eq, P38_eq, Mount.pv_eq, P31_eq, Ns.pv_eq]
  refine AW.seq ?_
  replace h := Option.bind_eq_some_iff.1 h; obtain ⟨⟨r2, r3⟩, q4, h⟩ := h
  dsimp only at h
  have f5 := c_F10 (NsOp.mk 1 2 [47, 117, 115, 114, 47, 97, 110, 110, 47, 98, 105, 110] [47, 98, 105, 110]) r2 r3 q4
  try dsimp only at f5
  refine AW.reg hS [(1, .pv (.str r2)), (2, .pv (.int .i64 r3))] [] ?_ ?_
  · simp -implicitDefEqProofs only [RUNS, qindex, Nat.reduceAdd, Nat.reduceLeDiff, Nat.reduceSub, reduceIte, Nat.reduceEqDiff, Nat.reduceLT, reduceCtorEq, Nat.reduceMul, if_true, if_false, eq_self, ne_eq, env_bT, T_23, NsOp.pv_eq, Word.pv_eq, Chan.pv_eq, Target.pv_eq, P38_eq, Mount.pv_eq, P31_eq, Ns.pv_eq, pf_10, f5]
  refine AW.seq ?_
  refine AW.seq ?_
  refine AW.reg hS [(16, .pv (.bool (!decide (r2 = [98, 105, 110, 100, 32, 45, 97, 32, 47, 117, 115, 114, 47, 97, 110, 110, 47, 98, 105, 110, 32, 47, 98, 105, 110]) || !decide (r3 = 0))))] [] ?_ ?_
  · clear h
    (simp -implicitDefEqProofs only [RUNS, qindex, Nat.reduceAdd, Nat.reduceLeDiff, Nat.reduceSub, reduceIte, Nat.reduceEqDiff, Nat.reduceLT, reduceCtorEq, Nat.reduceMul, if_true, if_false, eq_self, ne_eq, env_bT, T_9, T_26, NsOp.pv_eq, Word.pv_eq, Chan.pv_eq, Target.pv_eq, P38_eq, Mount.pv_eq, P31_eq, Ns.pv_eq, eqT_9, eqT_26]); repeat' (split <;> rename_i hb <;> (try simp only [HBS, ge_iff_le, gt_iff_lt] at hb) <;> simp -implicitDefEqProofs only [RUNS, qindex, Nat.reduceAdd, Nat.reduceLeDiff, Nat.reduceSub, reduceIte, Nat.reduceEqDiff, Nat.reduceLT, reduceCtorEq, Nat.reduceMul, if_true, if_false, eq_self, ne_eq, env_bT, T_9, T_26, NsOp.pv_eq, Word.pv_eq, Chan.pv_eq, Target.pv_eq, P38_eq, Mount.pv_eq, P31_eq, Ns.pv_eq, eqT_9, eqT_26, *, decide_true, decide_false, Decidable.not_not, not_false_eq_true, not_true_eq_false])
    all_goals (first | (simp only [BOOLS]; done) | (simp [*]; done) | ((try simp only [CLOS, beq_iff_eq, bne_iff_ne, ne_eq] at *) <;> omega) | (simp_all; done) | (simp_all <;> omega))
  refine AW.cond (b := (!decide (r2 = [98, 105, 110, 100, 32, 45, 97, 32, 47, 117, 115, 114, 47, 97, 110, 110, 47, 98, 105, 110, 32, 47, 98, 105, 110]) || !decide (r3 = 0))) rfl (fun hb6 => ?_) (fun hb6 => ?_)
  · replace h := bif_t hb6 h
    refine AW.seq ?_
    refine AW.reg hS [(0, .pv (.bool false))] [] ?_ ?_
    · simp -implicitDefEqProofs only [RUNS, qindex, Nat.reduceAdd, Nat.reduceLeDiff, Nat.reduceSub, reduceIte, Nat.reduceEqDiff, Nat.reduceLT, reduceCtorEq, Nat.reduceMul, if_true, if_false, eq_self, ne_eq, env_bT, NsOp.pv_eq, Word.pv_eq, Chan.pv_eq, Target.pv_eq, P38_eq, Mount.pv_eq, P31_eq, Ns.pv_eq]
    refine AW.ret ?_
    cases h
    show finish _ _ _ _ _ = _
    first | rfl | (simp [finish, resOf, renArgs, toPV, selObjs, sl])
  · replace h := bif_f hb6 h
    refine AW.skip ?_
    refine AW.seq ?_
    replace h := Option.bind_eq_some_iff.1 h; obtain ⟨⟨r7, r8⟩, q9, h⟩ := h
    dsimp only at h
    have f10 := c_F20 [109, 111, 117, 110, 116, 32, 45, 99, 98, 32, 39, 35, 51, 39, 32, 47, 110, 47, 102, 115, 32, 35, 32, 120] r7 r8 q9
    try dsimp only at f10
    try simp only [List.map_cons, List.map_nil, NsOp.pv_eq, Word.pv_eq, Chan.pv_eq, Target.pv_eq, P38_eq, Mount.pv_eq, P31_eq, Ns.pv_eq] at f10
    refine AW.reg hS [(2, .pv (.int .i64 r8)), (3, .ref 0 0)] [.var [.pv (.int .i64 r7.kind_), .pv (.int .i64 r7.flag_), .pv (.str r7.new_), .pv (.str r7.old_)]] ?_ ?_
    · simp -implicitDefEqProofs only [RUNS, qindex, Nat.reduceAdd, Nat.reduceLeDiff, Nat.reduceSub, reduceIte, Nat.reduceEqDiff, Nat.reduceLT, reduceCtorEq, Nat.reduceMul, if_true, if_false, eq_self, ne_eq, env_bT, T_9, T_23, NsOp.pv_eq, Word.pv_eq, Chan.pv_eq, Target.pv_eq, P38_eq, Mount.pv_eq, P31_eq, Ns.pv_eq, pf_20, f10]
    refine AW.seq ?_
    refine AW.seq ?_
    refine AW.reg hS [(27, .pv (.bool (!decide (r8 = 0) || !(decide (r7.kind_ = 2) && (decide (r7.flag_ = 5) && (decide (r7.new_ = [35, 51]) && (decide (r7.old_ = [47, 110, 47, 102, 115]))))))))] [.var [.pv (.int .i64 r7.kind_), .pv (.int .i64 r7.flag_), .pv (.str r7.new_), .pv (.str r7.old_)]] ?_ ?_
    · clear h
      (simp -implicitDefEqProofs only [RUNS, qindex, Nat.reduceAdd, Nat.reduceLeDiff, Nat.reduceSub, reduceIte, Nat.reduceEqDiff, Nat.reduceLT, reduceCtorEq, Nat.reduceMul, if_true, if_false, eq_self, ne_eq, env_bT, T_23, T_26, NsOp.pv_eq, Word.pv_eq, Chan.pv_eq, Target.pv_eq, P38_eq, Mount.pv_eq, P31_eq, Ns.pv_eq, eqT_26, eqT_23]); repeat' (split <;> rename_i hb <;> (try simp only [HBS, ge_iff_le, gt_iff_lt] at hb) <;> simp -implicitDefEqProofs only [RUNS, qindex, Nat.reduceAdd, Nat.reduceLeDiff, Nat.reduceSub, reduceIte, Nat.reduceEqDiff, Nat.reduceLT, reduceCtorEq, Nat.reduceMul, if_true, if_false, eq_self, ne_eq, env_bT, T_23, T_26, NsOp.pv_eq, Word.pv_eq, Chan.pv_eq, Target.pv_eq, P38_eq, Mount.pv_eq, P31_eq, Ns.pv_eq, eqT_26, eqT_23, *, decide_true, decide_false, Decidable.not_not, not_false_eq_true, not_true_eq_false])
      all_goals (first | (simp only [BOOLS]; done) | (simp [*]; done) | ((try simp only [CLOS, beq_iff_eq, bne_iff_ne, ne_eq] at *) <;> omega) | (simp_all; done) | (simp_all <;> omega))
    refine AW.cond (b := (!decide (r8 = 0) || !(decide (r7.kind_ = 2) && (decide (r7.flag_ = 5) && (decide (r7.new_ = [35, 51]) && (decide (r7.old_ = [47, 110, 47, 102, 115]))))))) rfl (fun hb11 => ?_) (fun hb11 => ?_)
    · replace h := bif_t hb11 h
      refine AW.seq ?_
      refine AW.reg hS [(0, .pv (.bool false))] [.var [.pv (.int .i64 r7.kind_), .pv (.int .i64 r7.flag_), .pv (.str r7.new_), .pv (.str r7.old_)]] ?_ ?_
      · simp -implicitDefEqProofs only [RUNS, qindex, Nat.reduceAdd, Nat.reduceLeDiff, Nat.reduceSub, reduceIte, Nat.reduceEqDiff, Nat.reduceLT, reduceCtorEq, Nat.reduceMul, if_true, if_false, eq_self, ne_eq, env_bT, NsOp.pv_eq, Word.pv_eq, Chan.pv_eq, Target.pv_eq, P38_eq, Mount.pv_eq, P31_eq, Ns.pv_eq]
      refine AW.ret ?_
      cases h
      show finish _ _ _ _ _ = _
      first | rfl | (simp [finish, resOf, renArgs, toPV, selObjs, sl])
    · replace h := bif_f hb11 h
      refine AW.skip ?_
      refine AW.seq ?_
      replace h := Option.bind_eq_some_iff.1 h; obtain ⟨⟨r12, r13, r14⟩, q15, h⟩ := h
      dsimp only at h
      have f16 := c_F16 [35, 32, 120, 10, 10, 99, 108, 101, 97, 114, 10] r12 r13 r14 q15
      try dsimp only at f16
      try simp only [List.map_cons, List.map_nil, NsOp.pv_eq, Word.pv_eq, Chan.pv_eq, Target.pv_eq, P38_eq, Mount.pv_eq, P31_eq, Ns.pv_eq] at f16
      refine AW.reg hS [(2, .pv (.int .i64 r14)), (4, .pv (.slice (List.map NsOp.pv r12))), (5, .pv (.int .i64 r13))] [.var [.pv (.int .i64 r7.kind_), .pv (.int .i64 r7.flag_), .pv (.str r7.new_), .pv (.str r7.old_)]] ?_ ?_
      · simp -implicitDefEqProofs only [RUNS, qindex, Nat.reduceAdd, Nat.reduceLeDiff, Nat.reduceSub, reduceIte, Nat.reduceEqDiff, Nat.reduceLT, reduceCtorEq, Nat.reduceMul, if_true, if_false, eq_self, ne_eq, env_bT, T_9, NsOp.pv_eq, Word.pv_eq, Chan.pv_eq, Target.pv_eq, P38_eq, Mount.pv_eq, P31_eq, Ns.pv_eq, pf_16, f16]
      refine AW.seq ?_
      replace h := Option.bind_eq_some_iff.1 h; obtain ⟨u17, q18, h⟩ := h
      have f19 := lidx_g (guardO_t q18)
      replace h := Option.bind_eq_some_iff.1 h; obtain ⟨r20, q21, h⟩ := h
      have f22 := fun hg => c_F13 (Ns.mk 0 (Chan.mk 0 0 0 [] []) []) [47, 97, 32, 98] r20 (guardO_t q21 hg)
      try dsimp only at f22
      try simp only [List.map_cons, List.map_nil, NsOp.pv_eq, Word.pv_eq, Chan.pv_eq, Target.pv_eq, P38_eq, Mount.pv_eq, P31_eq, Ns.pv_eq] at f22
      refine AW.reg hS [(0, .pv (.bool ((((decide (r14 = 0) && decide (r13 = 0)) && decide ((r12.length : Int) = 1)) && decide (u17.kind_ = 4)) && decide (r20 = [99, 100, 32, 39, 47, 97, 32, 98, 39, 10]))))] [.var [.pv (.int .i64 r7.kind_), .pv (.int .i64 r7.flag_), .pv (.str r7.new_), .pv (.str r7.old_)]] ?_ ?_
      · clear h
        (simp -implicitDefEqProofs only [RUNS, qindex, Nat.reduceAdd, Nat.reduceLeDiff, Nat.reduceSub, reduceIte, Nat.reduceEqDiff, Nat.reduceLT, reduceCtorEq, Nat.reduceMul, if_true, if_false, eq_self, ne_eq, env_bT, T_3, T_9, T_23, T_26, T_33, T_43, NsOp.pv_eq, Word.pv_eq, Chan.pv_eq, Target.pv_eq, P38_eq, Mount.pv_eq, P31_eq, Ns.pv_eq, eqT_26, eqT_3, f19.1, f19.2.1, pf_13, f22, eqT_9]); repeat' (split <;> rename_i hb <;> (try simp only [HBS, ge_iff_le, gt_iff_lt] at hb) <;> simp -implicitDefEqProofs only [RUNS, qindex, Nat.reduceAdd, Nat.reduceLeDiff, Nat.reduceSub, reduceIte, Nat.reduceEqDiff, Nat.reduceLT, reduceCtorEq, Nat.reduceMul, if_true, if_false, eq_self, ne_eq, env_bT, T_3, T_9, T_23, T_26, T_33, T_43, NsOp.pv_eq, Word.pv_eq, Chan.pv_eq, Target.pv_eq, P38_eq, Mount.pv_eq, P31_eq, Ns.pv_eq, eqT_26, eqT_3, f19.1, f19.2.1, pf_13, f22, eqT_9, *, decide_true, decide_false, Decidable.not_not, not_false_eq_true, not_true_eq_false])
        all_goals (first | (simp only [BOOLS]; done) | (simp [*]; done) | ((try simp only [CLOS, beq_iff_eq, bne_iff_ne, ne_eq] at *) <;> omega) | (simp_all; done) | (simp_all <;> omega))
      refine AW.ret ?_
      cases h
      show finish _ _ _ _ _ = _
      first | rfl | (simp [finish, resOf, renArgs, toPV, selObjs, sl])

set_option maxHeartbeats 4000000 in
theorem g_F30 {O : Orc} (hS : Sound env O) (hpf : O.pf = pfn) (n1 : Int) (r2 : Bool) (h : F30 n1 = some r2) : Good env 30 [.pv (.int .i64 n1)] [] [.pv (.bool r2)] [] := by
  refine Good.start (fn := Tryd.f30) (N := 25) rfl rfl rfl (by simp) [] _ rfl rfl ?_
  rw [F30] at h
  refine AW.seq ?_
  refine AW.reg hS [(0, .pv (.int .i64 n1))] [] ?_ ?_
  · simp -implicitDefEqProofs only [RUNS, qindex, Nat.reduceAdd, Nat.reduceLeDiff, Nat.reduceSub, reduceIte, Nat.reduceEqDiff, Nat.reduceLT, reduceCtorEq, Nat.reduceMul, if_true, if_false, eq_self, ne_eq, env_bT, NsOp.pv_eq, Word.pv_eq, Chan.pv_eq, Target.pv_eq, P38_eq, Mount.pv_eq, P31_eq, Ns.pv_eq]
  refine AW.seq ?_
  refine AW.reg hS [(2, .pv (.bool (((((decide (n1 = 0) || decide (n1 = 1)) || decide (n1 = 2)) || decide (n1 = 4)) || decide (n1 = 5)) || decide (n1 = 6))))] [] ?_ ?_
  · clear h
    (simp -implicitDefEqProofs only [RUNS, qindex, Nat.reduceAdd, Nat.reduceLeDiff, Nat.reduceSub, reduceIte, Nat.reduceEqDiff, Nat.reduceLT, reduceCtorEq, Nat.reduceMul, if_true, if_false, eq_self, ne_eq, env_bT, T_3, NsOp.pv_eq, Word.pv_eq, Chan.pv_eq, Target.pv_eq, P38_eq, Mount.pv_eq, P31_eq, Ns.pv_eq, eqT_3]); repeat' (split <;> rename_i hb <;> (try simp only [HBS, ge_iff_le, gt_iff_lt] at hb) <;> simp -implicitDefEqProofs only [RUNS, qindex, Nat.reduceAdd, Nat.reduceLeDiff, Nat.reduceSub, reduceIte, Nat.reduceEqDiff, Nat.reduceLT, reduceCtorEq, Nat.reduceMul, if_true, if_false, eq_self, ne_eq, env_bT, T_3, NsOp.pv_eq, Word.pv_eq, Chan.pv_eq, Target.pv_eq, P38_eq, Mount.pv_eq, P31_eq, Ns.pv_eq, eqT_3, *, decide_true, decide_false, Decidable.not_not, not_false_eq_true, not_true_eq_false])
    all_goals (first | (simp only [BOOLS]; done) | (simp [*]; done) | ((try simp only [CLOS, beq_iff_eq, bne_iff_ne, ne_eq] at *) <;> omega) | (simp_all; done) | (simp_all <;> omega))
  refine AW.ret ?_
  cases h
  show finish _ _ _ _ _ = _
  first | rfl | (simp [finish, resOf, renArgs, toPV, selObjs, sl])

set_option maxHeartbeats 4000000 in
theorem g_F15 {O : Orc} (hS : Sound env O) (hpf : O.pf = pfn) (s1 : Str) (r2 : Bool) (h : F15 s1 = some r2) : Good env 15 [.pv (.str s1)] [] [.pv (.bool r2)] [] := by
  refine Good.start (fn := Tryd.f15) (N := 27) rfl rfl rfl (by simp) [] _ rfl rfl ?_
  rw [F15] at h
  refine AW.seq ?_
  refine AW.reg hS [(0, .pv (.str s1))] [] ?_ ?_
  · simp -implicitDefEqProofs only [RUNS, qindex, Nat.reduceAdd, Nat.reduceLeDiff, Nat.reduceSub, reduceIte, Nat.reduceEqDiff, Nat.reduceLT, reduceCtorEq, Nat.reduceMul, if_true, if_false, eq_self, ne_eq, env_bT, NsOp.pv_eq, Word.pv_eq, Chan.pv_eq, Target.pv_eq, P38_eq, Mount.pv_eq, P31_eq, Ns.pv_eq]
  refine AW.seq ?_
  refine AW.seq ?_
  refine AW.reg hS [(0, .pv (.str s1)), (3, .pv (.int .i64 0))] [] ?_ ?_
  · simp -implicitDefEqProofs only [RUNS, qindex, Nat.reduceAdd, Nat.reduceLeDiff, Nat.reduceSub, reduceIte, Nat.reduceEqDiff, Nat.reduceLT, reduceCtorEq, Nat.reduceMul, if_true, if_false, eq_self, ne_eq, env_bT, NsOp.pv_eq, Word.pv_eq, Chan.pv_eq, Target.pv_eq, P38_eq, Mount.pv_eq, P31_eq, Ns.pv_eq]
  refine AW.block ?_
  refine AW.weak (Weak.slots (L := [(0, .pv (.str s1)), (3, .pv (.int .i64 0))]) ⟨rfl, rfl, trivial⟩) ?_
  refine AW.loopI (α := Nat × Int) (fun (_, i3) => ⟨sl [(0, .pv (.str s1)), (3, .pv (.int .i64 i3))], 27, []⟩) (fun x => iter (F15_b1 s1) x.1 x.2 = some r2) (fun x => x.1) (BIG, 0) h ?_
  clear h
  intro ⟨n12, i3⟩ h
  replace h := iter_some h; obtain ⟨m6, rfl, h⟩ := h
  rw [F15_b1] at h
  try dsimp only at h
  show AW _ _ _ _ ⟨sl [(0, .pv (.str s1)), (3, .pv (.int .i64 i3))], 27, []⟩
  refine AW.seq ?_
  refine AW.seq ?_
  refine AW.reg hS [(0, .pv (.str s1)), (3, .pv (.int .i64 i3)), (7, .pv (.bool (decide (i3 < (s1.length : Int)))))] [] ?_ ?_
  · simp -implicitDefEqProofs only [RUNS, qindex, Nat.reduceAdd, Nat.reduceLeDiff, Nat.reduceSub, reduceIte, Nat.reduceEqDiff, Nat.reduceLT, reduceCtorEq, Nat.reduceMul, if_true, if_false, eq_self, ne_eq, env_bT, T_3, T_9, NsOp.pv_eq, Word.pv_eq, Chan.pv_eq, Target.pv_eq, P38_eq, Mount.pv_eq, P31_eq, Ns.pv_eq, eqT_3]
  refine AW.cond (b := decide (i3 < (s1.length : Int))) rfl (fun hb7 => ?_) (fun hb7 => ?_)
  · replace h := bif_t hb7 h
    refine AW.skip ?_
    refine AW.seq ?_
    refine AW.block ?_
    refine AW.seq ?_
    replace h := Option.bind_eq_some_iff.1 h; obtain ⟨c8, q9, h⟩ := h
    have f10 := sidx_f q9
    refine AW.reg hS [(0, .pv (.str s1)), (3, .pv (.int .i64 i3)), (19, .pv (.bool (decide (c8 = 0) || decide (c8 = 10))))] [] ?_ ?_
    · clear h
      (simp -implicitDefEqProofs only [RUNS, qindex, Nat.reduceAdd, Nat.reduceLeDiff, Nat.reduceSub, reduceIte, Nat.reduceEqDiff, Nat.reduceLT, reduceCtorEq, Nat.reduceMul, if_true, if_false, eq_self, ne_eq, env_bT, T_5, T_9, NsOp.pv_eq, Word.pv_eq, Chan.pv_eq, Target.pv_eq, P38_eq, Mount.pv_eq, P31_eq, Ns.pv_eq, f10.1, f10.2.1, f10.2.2, eqT_5]); repeat' (split <;> rename_i hb <;> (try simp only [HBS, ge_iff_le, gt_iff_lt] at hb) <;> simp -implicitDefEqProofs only [RUNS, qindex, Nat.reduceAdd, Nat.reduceLeDiff, Nat.reduceSub, reduceIte, Nat.reduceEqDiff, Nat.reduceLT, reduceCtorEq, Nat.reduceMul, if_true, if_false, eq_self, ne_eq, env_bT, T_5, T_9, NsOp.pv_eq, Word.pv_eq, Chan.pv_eq, Target.pv_eq, P38_eq, Mount.pv_eq, P31_eq, Ns.pv_eq, f10.1, f10.2.1, f10.2.2, eqT_5, *, decide_true, decide_false, Decidable.not_not, not_false_eq_true, not_true_eq_false])
      all_goals (first | (simp only [BOOLS]; done) | (simp [*]; done) | ((try simp only [CLOS, beq_iff_eq, bne_iff_ne, ne_eq] at *) <;> omega) | (simp_all; done) | (simp_all <;> omega))
    refine AW.cond (b := (decide (c8 = 0) || decide (c8 = 10))) rfl (fun hb11 => ?_) (fun hb11 => ?_)
    · replace h := bif_t hb11 h
      refine AW.seq ?_
      refine AW.reg hS [(2, .pv (.bool false))] [] ?_ ?_
      · simp -implicitDefEqProofs only [RUNS, qindex, Nat.reduceAdd, Nat.reduceLeDiff, Nat.reduceSub, reduceIte, Nat.reduceEqDiff, Nat.reduceLT, reduceCtorEq, Nat.reduceMul, if_true, if_false, eq_self, ne_eq, env_bT, NsOp.pv_eq, Word.pv_eq, Chan.pv_eq, Target.pv_eq, P38_eq, Mount.pv_eq, P31_eq, Ns.pv_eq]
      refine AW.ret ?_
      cases h
      show finish _ _ _ _ _ = _
      first | rfl | (simp [finish, resOf, renArgs, toPV, selObjs, sl])
    · replace h := bif_f hb11 h
      refine AW.skip ?_
      refine AW.reg hS [(0, .pv (.str s1)), (3, .pv (.int .i64 (IntKind.wrap .i64 (i3 + 1))))] [] ?_ ?_
      · simp -implicitDefEqProofs only [RUNS, qindex, Nat.reduceAdd, Nat.reduceLeDiff, Nat.reduceSub, reduceIte, Nat.reduceEqDiff, Nat.reduceLT, reduceCtorEq, Nat.reduceMul, if_true, if_false, eq_self, ne_eq, env_bT, T_3, NsOp.pv_eq, Word.pv_eq, Chan.pv_eq, Target.pv_eq, P38_eq, Mount.pv_eq, P31_eq, Ns.pv_eq, eqT_3]
      exact ⟨(m6, IntKind.wrap .i64 (i3 + 1)), h, (Weak.norm (m := 0) (Nat.le_of_ble_eq_true rfl) ⟨rfl, rfl, trivial⟩ rfl rfl rfl), Nat.lt_succ_self _⟩
  · replace h := bif_f hb7 h
    refine AW.exit ?_
    refine AW.seq ?_
    refine AW.reg hS [(2, .pv (.bool (!decide (s1 = []) && decide ((s1.length : Int) ≤ 1024))))] [] ?_ ?_
    · clear h
      (simp -implicitDefEqProofs only [RUNS, qindex, Nat.reduceAdd, Nat.reduceLeDiff, Nat.reduceSub, reduceIte, Nat.reduceEqDiff, Nat.reduceLT, reduceCtorEq, Nat.reduceMul, if_true, if_false, eq_self, ne_eq, env_bT, T_3, T_9, NsOp.pv_eq, Word.pv_eq, Chan.pv_eq, Target.pv_eq, P38_eq, Mount.pv_eq, P31_eq, Ns.pv_eq, eqT_9, eqT_3]); repeat' (split <;> rename_i hb <;> (try simp only [HBS, ge_iff_le, gt_iff_lt] at hb) <;> simp -implicitDefEqProofs only [RUNS, qindex, Nat.reduceAdd, Nat.reduceLeDiff, Nat.reduceSub, reduceIte, Nat.reduceEqDiff, Nat.reduceLT, reduceCtorEq, Nat.reduceMul, if_true, if_false, eq_self, ne_eq, env_bT, T_3, T_9, NsOp.pv_eq, Word.pv_eq, Chan.pv_eq, Target.pv_eq, P38_eq, Mount.pv_eq, P31_eq, Ns.pv_eq, eqT_9, eqT_3, *, decide_true, decide_false, Decidable.not_not, not_false_eq_true, not_true_eq_false])
      all_goals (first | (simp only [BOOLS]; done) | (simp [*]; done) | ((try simp only [CLOS, beq_iff_eq, bne_iff_ne, ne_eq] at *) <;> omega) | (simp_all; done) | (simp_all <;> omega))
    refine AW.ret ?_
    cases h
    show finish _ _ _ _ _ = _
    first | rfl | (simp [finish, resOf, renArgs, toPV, selObjs, sl])

set_option maxHeartbeats 4000000 in
theorem g_F19 {O : Orc} (hS : Sound env O) (hpf : O.pf = pfn) (c_F30 : C_F30 O) (c_F15 : C_F15 O) (op1 : NsOp) (r2 : Bool) (h : F19 op1 = some r2) : Good env 19 [.pv (.agg [.int .i64 op1.kind_, .int .i64 op1.flag_, .str op1.new_, .str op1.old_])] [] [.pv (.bool r2)] [] := by
  have pf_15 : O.pf 15 = true := by rw [hpf]; rfl
  have pf_30 : O.pf 30 = true := by rw [hpf]; rfl
  refine Good.start (fn := Tryd.f19) (N := 71) rfl rfl rfl (by simp) [] _ rfl rfl ?_
  rw [F19] at h
  refine AW.seq ?_
  refine AW.reg hS [(1, .ref 0 0)] [.var [.pv (.int .i64 op1.kind_), .pv (.int .i64 op1.flag_), .pv (.str op1.new_), .pv (.str op1.old_)]] ?_ ?_
  · simp -implicitDefEqProofs only [RUNS, qindex, Nat.reduceAdd, Nat.reduceLeDiff, Nat.reduceSub, reduceIte, Nat.reduceEqDiff, Nat.reduceLT, reduceCtorEq, Nat.reduceMul, if_true, if_false, eq_self, ne_eq, env_bT, T_23, NsOp.pv_eq, Word.pv_eq, Chan.pv_eq, Target.pv_eq, P38_eq, Mount.pv_eq, P31_eq, Ns.pv_eq]
  refine AW.seq ?_
  refine AW.seq ?_
  refine AW.reg hS [(1, .ref 0 0), (4, .pv (.int .i64 op1.kind_))] [.var [.pv (.int .i64 op1.kind_), .pv (.int .i64 op1.flag_), .pv (.str op1.new_), .pv (.str op1.old_)]] ?_ ?_
  · simp -implicitDefEqProofs only [RUNS, qindex, Nat.reduceAdd, Nat.reduceLeDiff, Nat.reduceSub, reduceIte, Nat.reduceEqDiff, Nat.reduceLT, reduceCtorEq, Nat.reduceMul, if_true, if_false, eq_self, ne_eq, env_bT, T_3, T_23, NsOp.pv_eq, Word.pv_eq, Chan.pv_eq, Target.pv_eq, P38_eq, Mount.pv_eq, P31_eq, Ns.pv_eq]
  refine AW.block ?_
  refine AW.seqM ⟨sl [(1, .ref 0 0), (4, .pv (.int .i64 op1.kind_)), (5, .pv (.bool (bif decide (op1.kind_ = 1) then decide (op1.kind_ = 1) else decide (op1.kind_ = 2))))], 71, [.var [.pv (.int .i64 op1.kind_), .pv (.int .i64 op1.flag_), .pv (.str op1.new_), .pv (.str op1.old_)]]⟩ ?_ ?_
  · refine AW.seq ?_
    refine AW.reg hS [(1, .ref 0 0), (4, .pv (.int .i64 op1.kind_)), (5, .pv (.bool (decide (op1.kind_ = 1))))] [.var [.pv (.int .i64 op1.kind_), .pv (.int .i64 op1.flag_), .pv (.str op1.new_), .pv (.str op1.old_)]] ?_ ?_
    · simp -implicitDefEqProofs only [RUNS, qindex, Nat.reduceAdd, Nat.reduceLeDiff, Nat.reduceSub, reduceIte, Nat.reduceEqDiff, Nat.reduceLT, reduceCtorEq, Nat.reduceMul, if_true, if_false, eq_self, ne_eq, env_bT, T_3, NsOp.pv_eq, Word.pv_eq, Chan.pv_eq, Target.pv_eq, P38_eq, Mount.pv_eq, P31_eq, Ns.pv_eq, eqT_3]
    refine AW.cond (b := decide (op1.kind_ = 1)) rfl (fun hb3 => ?_) (fun hb3 => ?_)
    · refine AW.skip ?_
      exact Weak.of_eq (Weak.slots (L := [(1, .ref 0 0), (4, .pv (.int .i64 op1.kind_)), (5, .pv (.bool (decide (op1.kind_ = 1))))]) ⟨rfl, rfl, rfl, trivial⟩) (by simp only [hb3, cond_true, cond_false, Bool.true_or, Bool.false_or, Bool.true_and, Bool.false_and, Bool.or_true, Bool.or_false, Bool.and_true, Bool.and_false, Bool.not_true, Bool.not_false])
    · refine AW.reg hS [(1, .ref 0 0), (4, .pv (.int .i64 op1.kind_)), (5, .pv (.bool (decide (op1.kind_ = 2))))] [.var [.pv (.int .i64 op1.kind_), .pv (.int .i64 op1.flag_), .pv (.str op1.new_), .pv (.str op1.old_)]] ?_ ?_
      · simp -implicitDefEqProofs only [RUNS, qindex, Nat.reduceAdd, Nat.reduceLeDiff, Nat.reduceSub, reduceIte, Nat.reduceEqDiff, Nat.reduceLT, reduceCtorEq, Nat.reduceMul, if_true, if_false, eq_self, ne_eq, env_bT, T_3, NsOp.pv_eq, Word.pv_eq, Chan.pv_eq, Target.pv_eq, P38_eq, Mount.pv_eq, P31_eq, Ns.pv_eq, eqT_3]
      exact Weak.of_eq (Weak.slots (L := [(1, .ref 0 0), (4, .pv (.int .i64 op1.kind_)), (5, .pv (.bool (decide (op1.kind_ = 2))))]) ⟨rfl, rfl, rfl, trivial⟩) (by simp only [hb3, cond_true, cond_false, Bool.true_or, Bool.false_or, Bool.true_and, Bool.false_and, Bool.or_true, Bool.or_false, Bool.and_true, Bool.and_false, Bool.not_true, Bool.not_false])
  refine AW.cond (b := (bif decide (op1.kind_ = 1) then decide (op1.kind_ = 1) else decide (op1.kind_ = 2))) rfl (fun hb4 => ?_) (fun hb4 => ?_)
  · replace h := bif_t hb4 h
    refine AW.seq ?_
    replace h := Option.bind_eq_some_iff.1 h; obtain ⟨r5, q6, h⟩ := h
    have f7 := c_F30 op1.flag_ r5 q6
    try dsimp only at f7
    replace h := Option.bind_eq_some_iff.1 h; obtain ⟨r8, q9, h⟩ := h
    have f10 := fun hg => c_F15 op1.new_ r8 (guardO_t q9 hg)
    try dsimp only at f10
    replace h := Option.bind_eq_some_iff.1 h; obtain ⟨r11, q12, h⟩ := h
    have f13 := fun hg => c_F15 op1.old_ r11 (guardO_t q12 hg)
    try dsimp only at f13
    refine AW.reg hS [(2, .pv (.bool ((r5 && r8) && r11)))] [.var [.pv (.int .i64 op1.kind_), .pv (.int .i64 op1.flag_), .pv (.str op1.new_), .pv (.str op1.old_)]] ?_ ?_
    · clear h
      (simp -implicitDefEqProofs only [RUNS, qindex, Nat.reduceAdd, Nat.reduceLeDiff, Nat.reduceSub, reduceIte, Nat.reduceEqDiff, Nat.reduceLT, reduceCtorEq, Nat.reduceMul, if_true, if_false, eq_self, ne_eq, env_bT, T_3, T_9, T_23, NsOp.pv_eq, Word.pv_eq, Chan.pv_eq, Target.pv_eq, P38_eq, Mount.pv_eq, P31_eq, Ns.pv_eq, pf_30, f7, pf_15, f10, f13]); repeat' (split <;> rename_i hb <;> (try simp only [HBS, ge_iff_le, gt_iff_lt] at hb) <;> simp -implicitDefEqProofs only [RUNS, qindex, Nat.reduceAdd, Nat.reduceLeDiff, Nat.reduceSub, reduceIte, Nat.reduceEqDiff, Nat.reduceLT, reduceCtorEq, Nat.reduceMul, if_true, if_false, eq_self, ne_eq, env_bT, T_3, T_9, T_23, NsOp.pv_eq, Word.pv_eq, Chan.pv_eq, Target.pv_eq, P38_eq, Mount.pv_eq, P31_eq, Ns.pv_eq, pf_30, f7, pf_15, f10, f13, *, decide_true, decide_false, Decidable.not_not, not_false_eq_true, not_true_eq_false])
      all_goals (first | (simp only [BOOLS]; done) | (simp [*]; done) | ((try simp only [CLOS, beq_iff_eq, bne_iff_ne, ne_eq] at *) <;> omega) | (simp_all; done) | (simp_all <;> omega))
    refine AW.ret ?_
    cases h
    show finish _ _ _ _ _ = _
    first | rfl | (simp [finish, resOf, renArgs, toPV, selObjs, sl])
  · replace h := bif_f hb4 h
    refine AW.seq ?_
    refine AW.reg hS [(1, .ref 0 0), (4, .pv (.int .i64 op1.kind_)), (21, .pv (.bool (decide (op1.kind_ = 3))))] [.var [.pv (.int .i64 op1.kind_), .pv (.int .i64 op1.flag_), .pv (.str op1.new_), .pv (.str op1.old_)]] ?_ ?_
    · simp -implicitDefEqProofs only [RUNS, qindex, Nat.reduceAdd, Nat.reduceLeDiff, Nat.reduceSub, reduceIte, Nat.reduceEqDiff, Nat.reduceLT, reduceCtorEq, Nat.reduceMul, if_true, if_false, eq_self, ne_eq, env_bT, T_3, NsOp.pv_eq, Word.pv_eq, Chan.pv_eq, Target.pv_eq, P38_eq, Mount.pv_eq, P31_eq, Ns.pv_eq, eqT_3]
    refine AW.cond (b := decide (op1.kind_ = 3)) rfl (fun hb14 => ?_) (fun hb14 => ?_)
    · replace h := bif_t hb14 h
      refine AW.seq ?_
      replace h := Option.bind_eq_some_iff.1 h; obtain ⟨r15, q16, h⟩ := h
      have f17 := fun hg => c_F15 op1.new_ r15 (guardO_t q16 hg)
      try dsimp only at f17
      replace h := Option.bind_eq_some_iff.1 h; obtain ⟨r18, q19, h⟩ := h
      have f20 := fun hg => c_F15 op1.old_ r18 (guardO_t q19 hg)
      try dsimp only at f20
      refine AW.reg hS [(2, .pv (.bool ((decide (op1.flag_ = 0) && (decide (op1.new_ = []) || r15)) && r18)))] [.var [.pv (.int .i64 op1.kind_), .pv (.int .i64 op1.flag_), .pv (.str op1.new_), .pv (.str op1.old_)]] ?_ ?_
      · clear h
        (simp -implicitDefEqProofs only [RUNS, qindex, Nat.reduceAdd, Nat.reduceLeDiff, Nat.reduceSub, reduceIte, Nat.reduceEqDiff, Nat.reduceLT, reduceCtorEq, Nat.reduceMul, if_true, if_false, eq_self, ne_eq, env_bT, T_3, T_9, T_23, NsOp.pv_eq, Word.pv_eq, Chan.pv_eq, Target.pv_eq, P38_eq, Mount.pv_eq, P31_eq, Ns.pv_eq, eqT_3, eqT_9, pf_15, f17, f20]); repeat' (split <;> rename_i hb <;> (try simp only [HBS, ge_iff_le, gt_iff_lt] at hb) <;> simp -implicitDefEqProofs only [RUNS, qindex, Nat.reduceAdd, Nat.reduceLeDiff, Nat.reduceSub, reduceIte, Nat.reduceEqDiff, Nat.reduceLT, reduceCtorEq, Nat.reduceMul, if_true, if_false, eq_self, ne_eq, env_bT, T_3, T_9, T_23, NsOp.pv_eq, Word.pv_eq, Chan.pv_eq, Target.pv_eq, P38_eq, Mount.pv_eq, P31_eq, Ns.pv_eq, eqT_3, eqT_9, pf_15, f17, f20, *, decide_true, decide_false, Decidable.not_not, not_false_eq_true, not_true_eq_false])
        all_goals (first | (simp only [BOOLS]; done) | (simp [*]; done) | ((try simp only [CLOS, beq_iff_eq, bne_iff_ne, ne_eq] at *) <;> omega) | (simp_all; done) | (simp_all <;> omega))
      refine AW.ret ?_
      cases h
      show finish _ _ _ _ _ = _
      first | rfl | (simp [finish, resOf, renArgs, toPV, selObjs, sl])
    · replace h := bif_f hb14 h
      refine AW.seq ?_
      refine AW.reg hS [(1, .ref 0 0), (4, .pv (.int .i64 op1.kind_)), (41, .pv (.bool (decide (op1.kind_ = 4))))] [.var [.pv (.int .i64 op1.kind_), .pv (.int .i64 op1.flag_), .pv (.str op1.new_), .pv (.str op1.old_)]] ?_ ?_
      · simp -implicitDefEqProofs only [RUNS, qindex, Nat.reduceAdd, Nat.reduceLeDiff, Nat.reduceSub, reduceIte, Nat.reduceEqDiff, Nat.reduceLT, reduceCtorEq, Nat.reduceMul, if_true, if_false, eq_self, ne_eq, env_bT, T_3, NsOp.pv_eq, Word.pv_eq, Chan.pv_eq, Target.pv_eq, P38_eq, Mount.pv_eq, P31_eq, Ns.pv_eq, eqT_3]
      refine AW.cond (b := decide (op1.kind_ = 4)) rfl (fun hb21 => ?_) (fun hb21 => ?_)
      · replace h := bif_t hb21 h
        refine AW.seq ?_
        refine AW.reg hS [(2, .pv (.bool ((decide (op1.flag_ = 0) && decide (op1.new_ = [])) && decide (op1.old_ = []))))] [.var [.pv (.int .i64 op1.kind_), .pv (.int .i64 op1.flag_), .pv (.str op1.new_), .pv (.str op1.old_)]] ?_ ?_
        · clear h
          (simp -implicitDefEqProofs only [RUNS, qindex, Nat.reduceAdd, Nat.reduceLeDiff, Nat.reduceSub, reduceIte, Nat.reduceEqDiff, Nat.reduceLT, reduceCtorEq, Nat.reduceMul, if_true, if_false, eq_self, ne_eq, env_bT, T_3, T_9, T_23, NsOp.pv_eq, Word.pv_eq, Chan.pv_eq, Target.pv_eq, P38_eq, Mount.pv_eq, P31_eq, Ns.pv_eq, eqT_3, eqT_9]); repeat' (split <;> rename_i hb <;> (try simp only [HBS, ge_iff_le, gt_iff_lt] at hb) <;> simp -implicitDefEqProofs only [RUNS, qindex, Nat.reduceAdd, Nat.reduceLeDiff, Nat.reduceSub, reduceIte, Nat.reduceEqDiff, Nat.reduceLT, reduceCtorEq, Nat.reduceMul, if_true, if_false, eq_self, ne_eq, env_bT, T_3, T_9, T_23, NsOp.pv_eq, Word.pv_eq, Chan.pv_eq, Target.pv_eq, P38_eq, Mount.pv_eq, P31_eq, Ns.pv_eq, eqT_3, eqT_9, *, decide_true, decide_false, Decidable.not_not, not_false_eq_true, not_true_eq_false])
          all_goals (first | (simp only [BOOLS]; done) | (simp [*]; done) | ((try simp only [CLOS, beq_iff_eq, bne_iff_ne, ne_eq] at *) <;> omega) | (simp_all; done) | (simp_all <;> omega))
        refine AW.ret ?_
        cases h
        show finish _ _ _ _ _ = _
        first | rfl | (simp [finish, resOf, renArgs, toPV, selObjs, sl])
      · replace h := bif_f hb21 h
        refine AW.seq ?_
        refine AW.reg hS [(1, .ref 0 0), (56, .pv (.bool (decide (op1.kind_ = 5))))] [.var [.pv (.int .i64 op1.kind_), .pv (.int .i64 op1.flag_), .pv (.str op1.new_), .pv (.str op1.old_)]] ?_ ?_
        · simp -implicitDefEqProofs only [RUNS, qindex, Nat.reduceAdd, Nat.reduceLeDiff, Nat.reduceSub, reduceIte, Nat.reduceEqDiff, Nat.reduceLT, reduceCtorEq, Nat.reduceMul, if_true, if_false, eq_self, ne_eq, env_bT, T_3, NsOp.pv_eq, Word.pv_eq, Chan.pv_eq, Target.pv_eq, P38_eq, Mount.pv_eq, P31_eq, Ns.pv_eq, eqT_3]
        refine AW.cond (b := decide (op1.kind_ = 5)) rfl (fun hb22 => ?_) (fun hb22 => ?_)
        · replace h := bif_t hb22 h
          refine AW.seq ?_
          replace h := Option.bind_eq_some_iff.1 h; obtain ⟨r23, q24, h⟩ := h
          have f25 := fun hg => c_F15 op1.new_ r23 (guardO_t q24 hg)
          try dsimp only at f25
          refine AW.reg hS [(2, .pv (.bool ((decide (op1.flag_ = 0) && r23) && decide (op1.old_ = []))))] [.var [.pv (.int .i64 op1.kind_), .pv (.int .i64 op1.flag_), .pv (.str op1.new_), .pv (.str op1.old_)]] ?_ ?_
          · clear h
            (simp -implicitDefEqProofs only [RUNS, qindex, Nat.reduceAdd, Nat.reduceLeDiff, Nat.reduceSub, reduceIte, Nat.reduceEqDiff, Nat.reduceLT, reduceCtorEq, Nat.reduceMul, if_true, if_false, eq_self, ne_eq, env_bT, T_3, T_9, T_23, NsOp.pv_eq, Word.pv_eq, Chan.pv_eq, Target.pv_eq, P38_eq, Mount.pv_eq, P31_eq, Ns.pv_eq, eqT_3, pf_15, f25, eqT_9]); repeat' (split <;> rename_i hb <;> (try simp only [HBS, ge_iff_le, gt_iff_lt] at hb) <;> simp -implicitDefEqProofs only [RUNS, qindex, Nat.reduceAdd, Nat.reduceLeDiff, Nat.reduceSub, reduceIte, Nat.reduceEqDiff, Nat.reduceLT, reduceCtorEq, Nat.reduceMul, if_true, if_false, eq_self, ne_eq, env_bT, T_3, T_9, T_23, NsOp.pv_eq, Word.pv_eq, Chan.pv_eq, Target.pv_eq, P38_eq, Mount.pv_eq, P31_eq, Ns.pv_eq, eqT_3, pf_15, f25, eqT_9, *, decide_true, decide_false, Decidable.not_not, not_false_eq_true, not_true_eq_false])
            all_goals (first | (simp only [BOOLS]; done) | (simp [*]; done) | ((try simp only [CLOS, beq_iff_eq, bne_iff_ne, ne_eq] at *) <;> omega) | (simp_all; done) | (simp_all <;> omega))
          refine AW.ret ?_
          cases h
          show finish _ _ _ _ _ = _
          first | rfl | (simp [finish, resOf, renArgs, toPV, selObjs, sl])
        · replace h := bif_f hb22 h
          refine AW.skip ?_
          refine AW.seq ?_
          refine AW.reg hS [(2, .pv (.bool false))] [.var [.pv (.int .i64 op1.kind_), .pv (.int .i64 op1.flag_), .pv (.str op1.new_), .pv (.str op1.old_)]] ?_ ?_
          · simp -implicitDefEqProofs only [RUNS, qindex, Nat.reduceAdd, Nat.reduceLeDiff, Nat.reduceSub, reduceIte, Nat.reduceEqDiff, Nat.reduceLT, reduceCtorEq, Nat.reduceMul, if_true, if_false, eq_self, ne_eq, env_bT, NsOp.pv_eq, Word.pv_eq, Chan.pv_eq, Target.pv_eq, P38_eq, Mount.pv_eq, P31_eq, Ns.pv_eq]
          refine AW.ret ?_
          cases h
          show finish _ _ _ _ _ = _
          first | rfl | (simp [finish, resOf, renArgs, toPV, selObjs, sl])

set_option maxHeartbeats 4000000 in
theorem g_F39 {O : Orc} (hS : Sound env O) (hpf : O.pf = pfn) (s1 : Str) (r2 : Str) (h : F39 s1 = some r2) : Good env 39 [.pv (.str s1)] [] [.pv (.str r2)] [] := by
  refine Good.start (fn := Tryd.f39) (N := 61) rfl rfl rfl (by simp) [] _ rfl rfl ?_
  rw [F39] at h
  refine AW.seq ?_
  refine AW.reg hS [(0, .pv (.str s1))] [] ?_ ?_
  · simp -implicitDefEqProofs only [RUNS, qindex, Nat.reduceAdd, Nat.reduceLeDiff, Nat.reduceSub, reduceIte, Nat.reduceEqDiff, Nat.reduceLT, reduceCtorEq, Nat.reduceMul, if_true, if_false, eq_self, ne_eq, env_bT, NsOp.pv_eq, Word.pv_eq, Chan.pv_eq, Target.pv_eq, P38_eq, Mount.pv_eq, P31_eq, Ns.pv_eq]
  refine AW.seq ?_
  replace h := Option.bind_eq_some_iff.1 h; obtain ⟨c3, q4, h⟩ := h
  have f5 := sidx_g (guardO_t q4)
  refine AW.dreg mixed hS (hpf ▸ (by kernel_rfl : orderOK pfn _ = true)) [(0, .pv (.str s1)), (3, .pv (.str [])), (4, .pv (.bool ((decide (s1 = []) || decide (c3 = 45)) || decide (c3 = 35))))] [] ?_ ?_
  · clear h
    (simp -implicitDefEqProofs only [RUNS, qindex, Nat.reduceAdd, Nat.reduceLeDiff, Nat.reduceSub, reduceIte, Nat.reduceEqDiff, Nat.reduceLT, reduceCtorEq, Nat.reduceMul, if_true, if_false, eq_self, ne_eq, env_bT, T_5, T_9, NsOp.pv_eq, Word.pv_eq, Chan.pv_eq, Target.pv_eq, P38_eq, Mount.pv_eq, P31_eq, Ns.pv_eq, eqT_9, f5.1, f5.2.1, f5.2.2, eqT_5]); repeat' (split <;> rename_i hb <;> (try simp only [HBS, ge_iff_le, gt_iff_lt] at hb) <;> simp -implicitDefEqProofs only [RUNS, qindex, Nat.reduceAdd, Nat.reduceLeDiff, Nat.reduceSub, reduceIte, Nat.reduceEqDiff, Nat.reduceLT, reduceCtorEq, Nat.reduceMul, if_true, if_false, eq_self, ne_eq, env_bT, T_5, T_9, NsOp.pv_eq, Word.pv_eq, Chan.pv_eq, Target.pv_eq, P38_eq, Mount.pv_eq, P31_eq, Ns.pv_eq, eqT_9, f5.1, f5.2.1, f5.2.2, eqT_5, *, decide_true, decide_false, Decidable.not_not, not_false_eq_true, not_true_eq_false])
    all_goals (first | (simp only [BOOLS]; done) | (simp [*]; done) | ((try simp only [CLOS, beq_iff_eq, bne_iff_ne, ne_eq] at *) <;> omega) | (simp_all; done) | (simp_all <;> omega))
  refine AW.seq ?_
  refine AW.seq ?_
  refine AW.reg hS [(0, .pv (.str s1)), (3, .pv (.str [])), (4, .pv (.bool ((decide (s1 = []) || decide (c3 = 45)) || decide (c3 = 35)))), (5, .pv (.int .i64 0))] [] ?_ ?_
  · simp -implicitDefEqProofs only [RUNS, qindex, Nat.reduceAdd, Nat.reduceLeDiff, Nat.reduceSub, reduceIte, Nat.reduceEqDiff, Nat.reduceLT, reduceCtorEq, Nat.reduceMul, if_true, if_false, eq_self, ne_eq, env_bT, NsOp.pv_eq, Word.pv_eq, Chan.pv_eq, Target.pv_eq, P38_eq, Mount.pv_eq, P31_eq, Ns.pv_eq]
  refine AW.block ?_
  refine AW.weak (Weak.slots (L := [(0, .pv (.str s1)), (3, .pv (.str [])), (4, .pv (.bool ((decide (s1 = []) || decide (c3 = 45)) || decide (c3 = 35)))), (5, .pv (.int .i64 0))]) ⟨rfl, rfl, rfl, rfl, trivial⟩) ?_
  refine AW.loopI (α := Nat × Str × Bool × Int) (fun (_, out6, odd7, i8) => ⟨sl [(0, .pv (.str s1)), (3, .pv (.str out6)), (4, .pv (.bool odd7)), (5, .pv (.int .i64 i8))], 61, []⟩) (fun x => iter (F39_b1 s1) x.1 x.2 = some r2) (fun x => x.1) (BIG, ([], ((decide (s1 = []) || decide (c3 = 45)) || decide (c3 = 35)), 0)) h ?_
  clear h
  intro ⟨n36, out6, odd7, i8⟩ h
  replace h := iter_some h; obtain ⟨m11, rfl, h⟩ := h
  rw [F39_b1] at h
  try dsimp only at h
  show AW _ _ _ _ ⟨sl [(0, .pv (.str s1)), (3, .pv (.str out6)), (4, .pv (.bool odd7)), (5, .pv (.int .i64 i8))], 61, []⟩
  refine AW.seq ?_
  refine AW.seq ?_
  refine AW.reg hS [(0, .pv (.str s1)), (3, .pv (.str out6)), (4, .pv (.bool odd7)), (5, .pv (.int .i64 i8)), (21, .pv (.bool (decide (i8 < (s1.length : Int)))))] [] ?_ ?_
  · simp -implicitDefEqProofs only [RUNS, qindex, Nat.reduceAdd, Nat.reduceLeDiff, Nat.reduceSub, reduceIte, Nat.reduceEqDiff, Nat.reduceLT, reduceCtorEq, Nat.reduceMul, if_true, if_false, eq_self, ne_eq, env_bT, T_3, T_9, NsOp.pv_eq, Word.pv_eq, Chan.pv_eq, Target.pv_eq, P38_eq, Mount.pv_eq, P31_eq, Ns.pv_eq, eqT_3]
  refine AW.cond (b := decide (i8 < (s1.length : Int))) rfl (fun hb12 => ?_) (fun hb12 => ?_)
  · replace h := bif_t hb12 h
    refine AW.skip ?_
    refine AW.seq ?_
    refine AW.block ?_
    refine AW.seq ?_
    replace h := Option.bind_eq_some_iff.1 h; obtain ⟨c13, q14, h⟩ := h
    have f15 := sidx_g (guardO_t q14)
    refine AW.reg hS [(0, .pv (.str s1)), (3, .pv (.str out6)), (4, .pv (.bool (((odd7 || decide (c13 = 32)) || decide (c13 = 9)) || decide (c13 = 39)))), (5, .pv (.int .i64 i8))] [] ?_ ?_
    · clear h
      (simp -implicitDefEqProofs only [RUNS, qindex, Nat.reduceAdd, Nat.reduceLeDiff, Nat.reduceSub, reduceIte, Nat.reduceEqDiff, Nat.reduceLT, reduceCtorEq, Nat.reduceMul, if_true, if_false, eq_self, ne_eq, env_bT, T_5, T_9, NsOp.pv_eq, Word.pv_eq, Chan.pv_eq, Target.pv_eq, P38_eq, Mount.pv_eq, P31_eq, Ns.pv_eq, f15.1, f15.2.1, f15.2.2, eqT_5]); repeat' (split <;> rename_i hb <;> (try simp only [HBS, ge_iff_le, gt_iff_lt] at hb) <;> simp -implicitDefEqProofs only [RUNS, qindex, Nat.reduceAdd, Nat.reduceLeDiff, Nat.reduceSub, reduceIte, Nat.reduceEqDiff, Nat.reduceLT, reduceCtorEq, Nat.reduceMul, if_true, if_false, eq_self, ne_eq, env_bT, T_5, T_9, NsOp.pv_eq, Word.pv_eq, Chan.pv_eq, Target.pv_eq, P38_eq, Mount.pv_eq, P31_eq, Ns.pv_eq, f15.1, f15.2.1, f15.2.2, eqT_5, *, decide_true, decide_false, Decidable.not_not, not_false_eq_true, not_true_eq_false])
      all_goals (first | (simp only [BOOLS]; done) | (simp [*]; done) | ((try simp only [CLOS, beq_iff_eq, bne_iff_ne, ne_eq] at *) <;> omega) | (simp_all; done) | (simp_all <;> omega))
    refine AW.seq ?_
    replace h := Option.bind_eq_some_iff.1 h; obtain ⟨t16, q17, h⟩ := h
    have f18 := sslice_f q17
    have f18e := f18.2.2.2.2
    try simp only [Int.toNat_natCast, Int.toNat_zero, List.drop_zero] at f18e
    have f18l := f18.2.2.1
    try simp only [Int.toNat_natCast, Int.toNat_zero] at f18l
    replace h := Option.bind_eq_some_iff.1 h; obtain ⟨s19, q20, h⟩ := h
    have f21 := catO_f q20
    try simp only [List.length_cons, List.length_nil, Nat.zero_add, Nat.reduceAdd, Nat.reduceLeDiff, Nat.add_zero, Nat.reduceMul] at f21
    refine AW.reg hS [(0, .pv (.str s1)), (3, .pv (.str s19)), (4, .pv (.bool (((odd7 || decide (c13 = 32)) || decide (c13 = 9)) || decide (c13 = 39)))), (5, .pv (.int .i64 i8))] [] ?_ ?_
    · simp -implicitDefEqProofs only [RUNS, qindex, Nat.reduceAdd, Nat.reduceLeDiff, Nat.reduceSub, reduceIte, Nat.reduceEqDiff, Nat.reduceLT, reduceCtorEq, Nat.reduceMul, if_true, if_false, eq_self, ne_eq, env_bT, T_3, T_9, NsOp.pv_eq, Word.pv_eq, Chan.pv_eq, Target.pv_eq, P38_eq, Mount.pv_eq, P31_eq, Ns.pv_eq, eqT_3, f18.1, f18.2.1, f18l, f18.2.2.2.1, f18e, Int.toNat_natCast, Int.toNat_zero, eqT_9, f21.1, f21.2]
    refine AW.seq ?_
    replace h := Option.bind_eq_some_iff.1 h; obtain ⟨c22, q23, h⟩ := h
    have f24 := sidx_f q23
    refine AW.reg hS [(0, .pv (.str s1)), (3, .pv (.str s19)), (4, .pv (.bool (((odd7 || decide (c13 = 32)) || decide (c13 = 9)) || decide (c13 = 39)))), (5, .pv (.int .i64 i8)), (53, .pv (.bool (decide (c22 = 39))))] [] ?_ ?_
    · simp -implicitDefEqProofs only [RUNS, qindex, Nat.reduceAdd, Nat.reduceLeDiff, Nat.reduceSub, reduceIte, Nat.reduceEqDiff, Nat.reduceLT, reduceCtorEq, Nat.reduceMul, if_true, if_false, eq_self, ne_eq, env_bT, T_5, T_9, NsOp.pv_eq, Word.pv_eq, Chan.pv_eq, Target.pv_eq, P38_eq, Mount.pv_eq, P31_eq, Ns.pv_eq, f24.1, f24.2.1, f24.2.2, eqT_5]
    refine AW.cond (b := decide (c22 = 39)) rfl (fun hb25 => ?_) (fun hb25 => ?_)
    · replace h := bif_t hb25 h
      replace h := Option.bind_eq_some_iff.1 h; obtain ⟨s26, q27, h⟩ := h
      have f28 := catO_f q27
      try simp only [List.length_cons, List.length_nil, Nat.zero_add, Nat.reduceAdd, Nat.reduceLeDiff, Nat.add_zero, Nat.reduceMul] at f28
      refine AW.reg hS [(0, .pv (.str s1)), (3, .pv (.str s26)), (4, .pv (.bool (((odd7 || decide (c13 = 32)) || decide (c13 = 9)) || decide (c13 = 39)))), (5, .pv (.int .i64 i8))] [] ?_ ?_
      · simp -implicitDefEqProofs only [RUNS, qindex, Nat.reduceAdd, Nat.reduceLeDiff, Nat.reduceSub, reduceIte, Nat.reduceEqDiff, Nat.reduceLT, reduceCtorEq, Nat.reduceMul, if_true, if_false, eq_self, ne_eq, env_bT, T_9, NsOp.pv_eq, Word.pv_eq, Chan.pv_eq, Target.pv_eq, P38_eq, Mount.pv_eq, P31_eq, Ns.pv_eq, eqT_9, f28.1, f28.2]
      refine AW.reg hS [(0, .pv (.str s1)), (3, .pv (.str s26)), (4, .pv (.bool (((odd7 || decide (c13 = 32)) || decide (c13 = 9)) || decide (c13 = 39)))), (5, .pv (.int .i64 (IntKind.wrap .i64 (i8 + 1))))] [] ?_ ?_
      · simp -implicitDefEqProofs only [RUNS, qindex, Nat.reduceAdd, Nat.reduceLeDiff, Nat.reduceSub, reduceIte, Nat.reduceEqDiff, Nat.reduceLT, reduceCtorEq, Nat.reduceMul, if_true, if_false, eq_self, ne_eq, env_bT, T_3, NsOp.pv_eq, Word.pv_eq, Chan.pv_eq, Target.pv_eq, P38_eq, Mount.pv_eq, P31_eq, Ns.pv_eq, eqT_3]
      exact ⟨(m11, (s26, (((odd7 || decide (c13 = 32)) || decide (c13 = 9)) || decide (c13 = 39)), IntKind.wrap .i64 (i8 + 1))), h, (Weak.norm (m := 0) (Nat.le_of_ble_eq_true rfl) ⟨rfl, rfl, rfl, rfl, trivial⟩ rfl rfl rfl), Nat.lt_succ_self _⟩
    · replace h := bif_f hb25 h
      refine AW.skip ?_
      refine AW.reg hS [(0, .pv (.str s1)), (3, .pv (.str s19)), (4, .pv (.bool (((odd7 || decide (c13 = 32)) || decide (c13 = 9)) || decide (c13 = 39)))), (5, .pv (.int .i64 (IntKind.wrap .i64 (i8 + 1))))] [] ?_ ?_
      · simp -implicitDefEqProofs only [RUNS, qindex, Nat.reduceAdd, Nat.reduceLeDiff, Nat.reduceSub, reduceIte, Nat.reduceEqDiff, Nat.reduceLT, reduceCtorEq, Nat.reduceMul, if_true, if_false, eq_self, ne_eq, env_bT, T_3, NsOp.pv_eq, Word.pv_eq, Chan.pv_eq, Target.pv_eq, P38_eq, Mount.pv_eq, P31_eq, Ns.pv_eq, eqT_3]
      exact ⟨(m11, (s19, (((odd7 || decide (c13 = 32)) || decide (c13 = 9)) || decide (c13 = 39)), IntKind.wrap .i64 (i8 + 1))), h, (Weak.norm (m := 0) (Nat.le_of_ble_eq_true rfl) ⟨rfl, rfl, rfl, rfl, trivial⟩ rfl rfl rfl), Nat.lt_succ_self _⟩
  · replace h := bif_f hb12 h
    refine AW.exit ?_
    refine AW.seq ?_
    refine AW.seq ?_
    refine AW.reg hS [(0, .pv (.str s1)), (3, .pv (.str out6)), (56, .pv (.bool odd7))] [] ?_ ?_
    · simp -implicitDefEqProofs only [RUNS, qindex, Nat.reduceAdd, Nat.reduceLeDiff, Nat.reduceSub, reduceIte, Nat.reduceEqDiff, Nat.reduceLT, reduceCtorEq, Nat.reduceMul, if_true, if_false, eq_self, ne_eq, env_bT, NsOp.pv_eq, Word.pv_eq, Chan.pv_eq, Target.pv_eq, P38_eq, Mount.pv_eq, P31_eq, Ns.pv_eq]
    refine AW.cond (b := odd7) rfl (fun hb29 => ?_) (fun hb29 => ?_)
    · replace h := bif_t hb29 h
      refine AW.seq ?_
      replace h := Option.bind_eq_some_iff.1 h; obtain ⟨s30, q31, h⟩ := h
      have f32 := catO_f q31
      try simp only [List.length_cons, List.length_nil, Nat.zero_add, Nat.reduceAdd, Nat.reduceLeDiff, Nat.add_zero, Nat.reduceMul] at f32
      replace h := Option.bind_eq_some_iff.1 h; obtain ⟨s33, q34, h⟩ := h
      have f35 := catO_f q34
      try simp only [List.length_cons, List.length_nil, Nat.zero_add, Nat.reduceAdd, Nat.reduceLeDiff, Nat.add_zero, Nat.reduceMul] at f35
      refine AW.reg hS [(2, .pv (.str s33))] [] ?_ ?_
      · simp -implicitDefEqProofs only [RUNS, qindex, Nat.reduceAdd, Nat.reduceLeDiff, Nat.reduceSub, reduceIte, Nat.reduceEqDiff, Nat.reduceLT, reduceCtorEq, Nat.reduceMul, if_true, if_false, eq_self, ne_eq, env_bT, T_9, NsOp.pv_eq, Word.pv_eq, Chan.pv_eq, Target.pv_eq, P38_eq, Mount.pv_eq, P31_eq, Ns.pv_eq, eqT_9, f32.1, f32.2, f35.1, f35.2]
      refine AW.ret ?_
      cases h
      show finish _ _ _ _ _ = _
      first | rfl | (simp [finish, resOf, renArgs, toPV, selObjs, sl])
    · replace h := bif_f hb29 h
      refine AW.skip ?_
      refine AW.seq ?_
      refine AW.reg hS [(2, .pv (.str s1))] [] ?_ ?_
      · simp -implicitDefEqProofs only [RUNS, qindex, Nat.reduceAdd, Nat.reduceLeDiff, Nat.reduceSub, reduceIte, Nat.reduceEqDiff, Nat.reduceLT, reduceCtorEq, Nat.reduceMul, if_true, if_false, eq_self, ne_eq, env_bT, NsOp.pv_eq, Word.pv_eq, Chan.pv_eq, Target.pv_eq, P38_eq, Mount.pv_eq, P31_eq, Ns.pv_eq]
      refine AW.ret ?_
      cases h
      show finish _ _ _ _ _ = _
      first | rfl | (simp [finish, resOf, renArgs, toPV, selObjs, sl])

set_option maxHeartbeats 4000000 in
theorem g_F24 {O : Orc} (hS : Sound env O) (hpf : O.pf = pfn) (c_F39 : C_F39 O) (op1 : NsOp) (r2 : Str) (h : F24 op1 = some r2) : Good env 24 [.pv (.agg [.int .i64 op1.kind_, .int .i64 op1.flag_, .str op1.new_, .str op1.old_])] [] [.pv (.str r2)] [] := by
  have pf_39 : O.pf 39 = true := by rw [hpf]; rfl
  refine Good.start (fn := Tryd.f24) (N := 56) rfl rfl rfl (by simp) [] _ rfl rfl ?_
  rw [F24] at h
  refine AW.seq ?_
  refine AW.reg hS [(1, .ref 0 0)] [.var [.pv (.int .i64 op1.kind_), .pv (.int .i64 op1.flag_), .pv (.str op1.new_), .pv (.str op1.old_)]] ?_ ?_
  · simp -implicitDefEqProofs only [RUNS, qindex, Nat.reduceAdd, Nat.reduceLeDiff, Nat.reduceSub, reduceIte, Nat.reduceEqDiff, Nat.reduceLT, reduceCtorEq, Nat.reduceMul, if_true, if_false, eq_self, ne_eq, env_bT, T_23, NsOp.pv_eq, Word.pv_eq, Chan.pv_eq, Target.pv_eq, P38_eq, Mount.pv_eq, P31_eq, Ns.pv_eq]
  refine AW.seq ?_
  refine AW.reg hS [(1, .ref 0 0)] [.var [.pv (.int .i64 op1.kind_), .pv (.int .i64 op1.flag_), .pv (.str op1.new_), .pv (.str op1.old_)]] ?_ ?_
  · simp -implicitDefEqProofs only [RUNS, qindex, Nat.reduceAdd, Nat.reduceLeDiff, Nat.reduceSub, reduceIte, Nat.reduceEqDiff, Nat.reduceLT, reduceCtorEq, Nat.reduceMul, if_true, if_false, eq_self, ne_eq, env_bT, NsOp.pv_eq, Word.pv_eq, Chan.pv_eq, Target.pv_eq, P38_eq, Mount.pv_eq, P31_eq, Ns.pv_eq]
  refine AW.seqJ (α := Str) (fun s3 => ⟨sl [(1, .ref 0 0), (3, .pv (.str s3))], 56, [.var [.pv (.int .i64 op1.kind_), .pv (.int .i64 op1.flag_), .pv (.str op1.new_), .pv (.str op1.old_)]]⟩) (fun x => F24_j1 op1 x = some r2) ?_ ?_
  · intro s3 h
    rw [F24_j1] at h
    try dsimp only at h
    show AW _ _ _ _ ⟨sl [(1, .ref 0 0), (3, .pv (.str s3))], 56, [.var [.pv (.int .i64 op1.kind_), .pv (.int .i64 op1.flag_), .pv (.str op1.new_), .pv (.str op1.old_)]]⟩
    refine AW.seq ?_
    refine AW.reg hS [(1, .ref 0 0), (3, .pv (.str s3)), (4, .pv (.str []))] [.var [.pv (.int .i64 op1.kind_), .pv (.int .i64 op1.flag_), .pv (.str op1.new_), .pv (.str op1.old_)]] ?_ ?_
    · simp -implicitDefEqProofs only [RUNS, qindex, Nat.reduceAdd, Nat.reduceLeDiff, Nat.reduceSub, reduceIte, Nat.reduceEqDiff, Nat.reduceLT, reduceCtorEq, Nat.reduceMul, if_true, if_false, eq_self, ne_eq, env_bT, NsOp.pv_eq, Word.pv_eq, Chan.pv_eq, Target.pv_eq, P38_eq, Mount.pv_eq, P31_eq, Ns.pv_eq]
    refine AW.seqM ⟨sl [(1, .ref 0 0), (3, .pv (.str s3)), (4, .pv (.str (bif decide (bits .and .i64 op1.flag_ 3 = 1) then [98] else [])))], 56, [.var [.pv (.int .i64 op1.kind_), .pv (.int .i64 op1.flag_), .pv (.str op1.new_), .pv (.str op1.old_)]]⟩ ?_ ?_
    · refine AW.seq ?_
      refine AW.reg hS [(1, .ref 0 0), (3, .pv (.str s3)), (4, .pv (.str [])), (29, .pv (.bool (decide (bits .and .i64 op1.flag_ 3 = 1))))] [.var [.pv (.int .i64 op1.kind_), .pv (.int .i64 op1.flag_), .pv (.str op1.new_), .pv (.str op1.old_)]] ?_ ?_
      · simp -implicitDefEqProofs only [RUNS, qindex, Nat.reduceAdd, Nat.reduceLeDiff, Nat.reduceSub, reduceIte, Nat.reduceEqDiff, Nat.reduceLT, reduceCtorEq, Nat.reduceMul, if_true, if_false, eq_self, ne_eq, env_bT, T_3, T_23, NsOp.pv_eq, Word.pv_eq, Chan.pv_eq, Target.pv_eq, P38_eq, Mount.pv_eq, P31_eq, Ns.pv_eq, eqT_3]
      refine AW.cond (b := decide (bits .and .i64 op1.flag_ 3 = 1)) rfl (fun hb4 => ?_) (fun hb4 => ?_)
      · refine AW.reg hS [(1, .ref 0 0), (3, .pv (.str s3)), (4, .pv (.str [98]))] [.var [.pv (.int .i64 op1.kind_), .pv (.int .i64 op1.flag_), .pv (.str op1.new_), .pv (.str op1.old_)]] ?_ ?_
        · simp -implicitDefEqProofs only [RUNS, qindex, Nat.reduceAdd, Nat.reduceLeDiff, Nat.reduceSub, reduceIte, Nat.reduceEqDiff, Nat.reduceLT, reduceCtorEq, Nat.reduceMul, if_true, if_false, eq_self, ne_eq, env_bT, NsOp.pv_eq, Word.pv_eq, Chan.pv_eq, Target.pv_eq, P38_eq, Mount.pv_eq, P31_eq, Ns.pv_eq]
        exact Weak.of_eq (Weak.slots (L := [(1, .ref 0 0), (3, .pv (.str s3)), (4, .pv (.str [98]))]) ⟨rfl, rfl, rfl, trivial⟩) (by simp only [hb4, cond_true, cond_false, Bool.true_or, Bool.false_or, Bool.true_and, Bool.false_and, Bool.or_true, Bool.or_false, Bool.and_true, Bool.and_false, Bool.not_true, Bool.not_false])
      · refine AW.skip ?_
        exact Weak.of_eq (Weak.slots (L := [(1, .ref 0 0), (3, .pv (.str s3)), (4, .pv (.str []))]) ⟨rfl, rfl, rfl, trivial⟩) (by simp only [hb4, cond_true, cond_false, Bool.true_or, Bool.false_or, Bool.true_and, Bool.false_and, Bool.or_true, Bool.or_false, Bool.and_true, Bool.and_false, Bool.not_true, Bool.not_false])
    refine AW.seqM ⟨sl [(1, .ref 0 0), (3, .pv (.str s3)), (4, .pv (.str (bif decide (bits .and .i64 op1.flag_ 3 = 2) then [97] else (bif decide (bits .and .i64 op1.flag_ 3 = 1) then [98] else []))))], 56, [.var [.pv (.int .i64 op1.kind_), .pv (.int .i64 op1.flag_), .pv (.str op1.new_), .pv (.str op1.old_)]]⟩ ?_ ?_
    · refine AW.seq ?_
      refine AW.reg hS [(1, .ref 0 0), (3, .pv (.str s3)), (4, .pv (.str (bif decide (bits .and .i64 op1.flag_ 3 = 1) then [98] else []))), (33, .pv (.bool (decide (bits .and .i64 op1.flag_ 3 = 2))))] [.var [.pv (.int .i64 op1.kind_), .pv (.int .i64 op1.flag_), .pv (.str op1.new_), .pv (.str op1.old_)]] ?_ ?_
      · simp -implicitDefEqProofs only [RUNS, qindex, Nat.reduceAdd, Nat.reduceLeDiff, Nat.reduceSub, reduceIte, Nat.reduceEqDiff, Nat.reduceLT, reduceCtorEq, Nat.reduceMul, if_true, if_false, eq_self, ne_eq, env_bT, T_3, T_23, NsOp.pv_eq, Word.pv_eq, Chan.pv_eq, Target.pv_eq, P38_eq, Mount.pv_eq, P31_eq, Ns.pv_eq, eqT_3]
      refine AW.cond (b := decide (bits .and .i64 op1.flag_ 3 = 2)) rfl (fun hb5 => ?_) (fun hb5 => ?_)
      · refine AW.reg hS [(1, .ref 0 0), (3, .pv (.str s3)), (4, .pv (.str [97]))] [.var [.pv (.int .i64 op1.kind_), .pv (.int .i64 op1.flag_), .pv (.str op1.new_), .pv (.str op1.old_)]] ?_ ?_
        · simp -implicitDefEqProofs only [RUNS, qindex, Nat.reduceAdd, Nat.reduceLeDiff, Nat.reduceSub, reduceIte, Nat.reduceEqDiff, Nat.reduceLT, reduceCtorEq, Nat.reduceMul, if_true, if_false, eq_self, ne_eq, env_bT, NsOp.pv_eq, Word.pv_eq, Chan.pv_eq, Target.pv_eq, P38_eq, Mount.pv_eq, P31_eq, Ns.pv_eq]
        exact Weak.of_eq (Weak.slots (L := [(1, .ref 0 0), (3, .pv (.str s3)), (4, .pv (.str [97]))]) ⟨rfl, rfl, rfl, trivial⟩) (by simp only [hb5, cond_true, cond_false, Bool.true_or, Bool.false_or, Bool.true_and, Bool.false_and, Bool.or_true, Bool.or_false, Bool.and_true, Bool.and_false, Bool.not_true, Bool.not_false])
      · refine AW.skip ?_
        exact Weak.of_eq (Weak.slots (L := [(1, .ref 0 0), (3, .pv (.str s3)), (4, .pv (.str (bif decide (bits .and .i64 op1.flag_ 3 = 1) then [98] else [])))]) ⟨rfl, rfl, rfl, trivial⟩) (by simp only [hb5, cond_true, cond_false, Bool.true_or, Bool.false_or, Bool.true_and, Bool.false_and, Bool.or_true, Bool.or_false, Bool.and_true, Bool.and_false, Bool.not_true, Bool.not_false])
    refine AW.seqJ (α := Str) (fun flags6 => ⟨sl [(1, .ref 0 0), (3, .pv (.str s3)), (4, .pv (.str flags6))], 56, [.var [.pv (.int .i64 op1.kind_), .pv (.int .i64 op1.flag_), .pv (.str op1.new_), .pv (.str op1.old_)]]⟩) (fun x => F24_j2 s3 op1 x = some r2) ?_ ?_
    · intro flags6 h
      rw [F24_j2] at h
      try dsimp only at h
      show AW _ _ _ _ ⟨sl [(1, .ref 0 0), (3, .pv (.str s3)), (4, .pv (.str flags6))], 56, [.var [.pv (.int .i64 op1.kind_), .pv (.int .i64 op1.flag_), .pv (.str op1.new_), .pv (.str op1.old_)]]⟩
      refine AW.seqJ (α := Str) (fun s7 => ⟨sl [(1, .ref 0 0), (3, .pv (.str s7))], 56, [.var [.pv (.int .i64 op1.kind_), .pv (.int .i64 op1.flag_), .pv (.str op1.new_), .pv (.str op1.old_)]]⟩) (fun x => F24_j3 op1 x = some r2) ?_ ?_
      · intro s7 h
        rw [F24_j3] at h
        try dsimp only at h
        show AW _ _ _ _ ⟨sl [(1, .ref 0 0), (3, .pv (.str s7))], 56, [.var [.pv (.int .i64 op1.kind_), .pv (.int .i64 op1.flag_), .pv (.str op1.new_), .pv (.str op1.old_)]]⟩
        refine AW.seq ?_
        replace h := Option.bind_eq_some_iff.1 h; obtain ⟨s8, q9, h⟩ := h
        have f10 := catO_f q9
        try simp only [List.length_cons, List.length_nil, Nat.zero_add, Nat.reduceAdd, Nat.reduceLeDiff, Nat.add_zero, Nat.reduceMul] at f10
        replace h := Option.bind_eq_some_iff.1 h; obtain ⟨r11, q12, h⟩ := h
        have f13 := c_F39 op1.new_ r11 q12
        try dsimp only at f13
        replace h := Option.bind_eq_some_iff.1 h; obtain ⟨s14, q15, h⟩ := h
        have f16 := catO_f q15
        try simp only [List.length_cons, List.length_nil, Nat.zero_add, Nat.reduceAdd, Nat.reduceLeDiff, Nat.add_zero, Nat.reduceMul] at f16
        replace h := Option.bind_eq_some_iff.1 h; obtain ⟨s17, q18, h⟩ := h
        have f19 := catO_f q18
        try simp only [List.length_cons, List.length_nil, Nat.zero_add, Nat.reduceAdd, Nat.reduceLeDiff, Nat.add_zero, Nat.reduceMul] at f19
        replace h := Option.bind_eq_some_iff.1 h; obtain ⟨r20, q21, h⟩ := h
        have f22 := c_F39 op1.old_ r20 q21
        try dsimp only at f22
        replace h := Option.bind_eq_some_iff.1 h; obtain ⟨s23, q24, h⟩ := h
        have f25 := catO_f q24
        try simp only [List.length_cons, List.length_nil, Nat.zero_add, Nat.reduceAdd, Nat.reduceLeDiff, Nat.add_zero, Nat.reduceMul] at f25
        refine AW.dreg mixed hS (hpf ▸ (by kernel_rfl : orderOK pfn _ = true)) [(2, .pv (.str s23))] [.var [.pv (.int .i64 op1.kind_), .pv (.int .i64 op1.flag_), .pv (.str op1.new_), .pv (.str op1.old_)]] ?_ ?_
        · simp -implicitDefEqProofs only [RUNS, qindex, Nat.reduceAdd, Nat.reduceLeDiff, Nat.reduceSub, reduceIte, Nat.reduceEqDiff, Nat.reduceLT, reduceCtorEq, Nat.reduceMul, if_true, if_false, eq_self, ne_eq, env_bT, T_9, T_23, NsOp.pv_eq, Word.pv_eq, Chan.pv_eq, Target.pv_eq, P38_eq, Mount.pv_eq, P31_eq, Ns.pv_eq, eqT_9, f10.1, f10.2, pf_39, f13, f16.1, f16.2, f19.1, f19.2, f22, f25.1, f25.2]
        refine AW.ret ?_
        cases h
        show finish _ _ _ _ _ = _
        first | rfl | (simp [finish, resOf, renArgs, toPV, selObjs, sl])
      refine AW.seq ?_
      refine AW.reg hS [(1, .ref 0 0), (3, .pv (.str s3)), (4, .pv (.str flags6)), (40, .pv (.bool (!decide (flags6 = []))))] [.var [.pv (.int .i64 op1.kind_), .pv (.int .i64 op1.flag_), .pv (.str op1.new_), .pv (.str op1.old_)]] ?_ ?_
      · simp -implicitDefEqProofs only [RUNS, qindex, Nat.reduceAdd, Nat.reduceLeDiff, Nat.reduceSub, reduceIte, Nat.reduceEqDiff, Nat.reduceLT, reduceCtorEq, Nat.reduceMul, if_true, if_false, eq_self, ne_eq, env_bT, T_9, NsOp.pv_eq, Word.pv_eq, Chan.pv_eq, Target.pv_eq, P38_eq, Mount.pv_eq, P31_eq, Ns.pv_eq, eqT_9]
      refine AW.cond (b := !decide (flags6 = [])) rfl (fun hb26 => ?_) (fun hb26 => ?_)
      · replace h := bif_t hb26 h
        replace h := Option.bind_eq_some_iff.1 h; obtain ⟨s27, q28, h⟩ := h
        have f29 := catO_f q28
        try simp only [List.length_cons, List.length_nil, Nat.zero_add, Nat.reduceAdd, Nat.reduceLeDiff, Nat.add_zero, Nat.reduceMul] at f29
        replace h := Option.bind_eq_some_iff.1 h; obtain ⟨s30, q31, h⟩ := h
        have f32 := catO_f q31
        try simp only [List.length_cons, List.length_nil, Nat.zero_add, Nat.reduceAdd, Nat.reduceLeDiff, Nat.add_zero, Nat.reduceMul] at f32
        refine AW.reg hS [(1, .ref 0 0), (3, .pv (.str s30))] [.var [.pv (.int .i64 op1.kind_), .pv (.int .i64 op1.flag_), .pv (.str op1.new_), .pv (.str op1.old_)]] ?_ ?_
        · simp -implicitDefEqProofs only [RUNS, qindex, Nat.reduceAdd, Nat.reduceLeDiff, Nat.reduceSub, reduceIte, Nat.reduceEqDiff, Nat.reduceLT, reduceCtorEq, Nat.reduceMul, if_true, if_false, eq_self, ne_eq, env_bT, T_9, NsOp.pv_eq, Word.pv_eq, Chan.pv_eq, Target.pv_eq, P38_eq, Mount.pv_eq, P31_eq, Ns.pv_eq, eqT_9, f29.1, f29.2, f32.1, f32.2]
        exact ⟨s30, h, (Weak.norm (m := 1) (Nat.le_of_ble_eq_true rfl) ⟨rfl, rfl, trivial⟩ rfl rfl rfl)⟩
      · replace h := bif_f hb26 h
        refine AW.skip ?_
        exact ⟨s3, h, (Weak.norm (m := 1) (Nat.le_of_ble_eq_true rfl) ⟨rfl, rfl, trivial⟩ rfl rfl rfl)⟩
    refine AW.seq ?_
    refine AW.reg hS [(1, .ref 0 0), (3, .pv (.str s3)), (4, .pv (.str (bif decide (bits .and .i64 op1.flag_ 3 = 2) then [97] else (bif decide (bits .and .i64 op1.flag_ 3 = 1) then [98] else [])))), (36, .pv (.bool (decide (4 ≤ op1.flag_))))] [.var [.pv (.int .i64 op1.kind_), .pv (.int .i64 op1.flag_), .pv (.str op1.new_), .pv (.str op1.old_)]] ?_ ?_
    · simp -implicitDefEqProofs only [RUNS, qindex, Nat.reduceAdd, Nat.reduceLeDiff, Nat.reduceSub, reduceIte, Nat.reduceEqDiff, Nat.reduceLT, reduceCtorEq, Nat.reduceMul, if_true, if_false, eq_self, ne_eq, env_bT, T_3, T_23, NsOp.pv_eq, Word.pv_eq, Chan.pv_eq, Target.pv_eq, P38_eq, Mount.pv_eq, P31_eq, Ns.pv_eq, eqT_3]
    refine AW.cond (b := decide (4 ≤ op1.flag_)) rfl (fun hb33 => ?_) (fun hb33 => ?_)
    · replace h := bif_t hb33 h
      replace h := Option.bind_eq_some_iff.1 h; obtain ⟨s34, q35, h⟩ := h
      have f36 := catO_f q35
      try simp only [List.length_cons, List.length_nil, Nat.zero_add, Nat.reduceAdd, Nat.reduceLeDiff, Nat.add_zero, Nat.reduceMul] at f36
      refine AW.reg hS [(1, .ref 0 0), (3, .pv (.str s3)), (4, .pv (.str s34))] [.var [.pv (.int .i64 op1.kind_), .pv (.int .i64 op1.flag_), .pv (.str op1.new_), .pv (.str op1.old_)]] ?_ ?_
      · simp -implicitDefEqProofs only [RUNS, qindex, Nat.reduceAdd, Nat.reduceLeDiff, Nat.reduceSub, reduceIte, Nat.reduceEqDiff, Nat.reduceLT, reduceCtorEq, Nat.reduceMul, if_true, if_false, eq_self, ne_eq, env_bT, T_9, NsOp.pv_eq, Word.pv_eq, Chan.pv_eq, Target.pv_eq, P38_eq, Mount.pv_eq, P31_eq, Ns.pv_eq, eqT_9, f36.1, f36.2]
      exact ⟨s34, h, (Weak.norm (m := 1) (Nat.le_of_ble_eq_true rfl) ⟨rfl, rfl, rfl, trivial⟩ rfl rfl rfl)⟩
    · replace h := bif_f hb33 h
      refine AW.skip ?_
      exact ⟨(bif decide (bits .and .i64 op1.flag_ 3 = 2) then [97] else (bif decide (bits .and .i64 op1.flag_ 3 = 1) then [98] else [])), h, (Weak.norm (m := 1) (Nat.le_of_ble_eq_true rfl) ⟨rfl, rfl, rfl, trivial⟩ rfl rfl rfl)⟩
  refine AW.seq ?_
  refine AW.reg hS [(1, .ref 0 0), (6, .pv (.int .i64 op1.kind_))] [.var [.pv (.int .i64 op1.kind_), .pv (.int .i64 op1.flag_), .pv (.str op1.new_), .pv (.str op1.old_)]] ?_ ?_
  · simp -implicitDefEqProofs only [RUNS, qindex, Nat.reduceAdd, Nat.reduceLeDiff, Nat.reduceSub, reduceIte, Nat.reduceEqDiff, Nat.reduceLT, reduceCtorEq, Nat.reduceMul, if_true, if_false, eq_self, ne_eq, env_bT, T_3, T_23, NsOp.pv_eq, Word.pv_eq, Chan.pv_eq, Target.pv_eq, P38_eq, Mount.pv_eq, P31_eq, Ns.pv_eq]
  refine AW.block ?_
  refine AW.seq ?_
  refine AW.reg hS [(1, .ref 0 0), (6, .pv (.int .i64 op1.kind_)), (11, .pv (.bool (decide (op1.kind_ = 1))))] [.var [.pv (.int .i64 op1.kind_), .pv (.int .i64 op1.flag_), .pv (.str op1.new_), .pv (.str op1.old_)]] ?_ ?_
  · simp -implicitDefEqProofs only [RUNS, qindex, Nat.reduceAdd, Nat.reduceLeDiff, Nat.reduceSub, reduceIte, Nat.reduceEqDiff, Nat.reduceLT, reduceCtorEq, Nat.reduceMul, if_true, if_false, eq_self, ne_eq, env_bT, T_3, NsOp.pv_eq, Word.pv_eq, Chan.pv_eq, Target.pv_eq, P38_eq, Mount.pv_eq, P31_eq, Ns.pv_eq, eqT_3]
  refine AW.cond (b := decide (op1.kind_ = 1)) rfl (fun hb37 => ?_) (fun hb37 => ?_)
  · replace h := bif_t hb37 h
    refine AW.reg hS [(1, .ref 0 0), (3, .pv (.str [98, 105, 110, 100]))] [.var [.pv (.int .i64 op1.kind_), .pv (.int .i64 op1.flag_), .pv (.str op1.new_), .pv (.str op1.old_)]] ?_ ?_
    · simp -implicitDefEqProofs only [RUNS, qindex, Nat.reduceAdd, Nat.reduceLeDiff, Nat.reduceSub, reduceIte, Nat.reduceEqDiff, Nat.reduceLT, reduceCtorEq, Nat.reduceMul, if_true, if_false, eq_self, ne_eq, env_bT, NsOp.pv_eq, Word.pv_eq, Chan.pv_eq, Target.pv_eq, P38_eq, Mount.pv_eq, P31_eq, Ns.pv_eq]
    exact ⟨[98, 105, 110, 100], h, (Weak.norm (m := 1) (Nat.le_of_ble_eq_true rfl) ⟨rfl, rfl, trivial⟩ rfl rfl rfl)⟩
  · replace h := bif_f hb37 h
    refine AW.seq ?_
    refine AW.reg hS [(1, .ref 0 0), (6, .pv (.int .i64 op1.kind_)), (13, .pv (.bool (decide (op1.kind_ = 2))))] [.var [.pv (.int .i64 op1.kind_), .pv (.int .i64 op1.flag_), .pv (.str op1.new_), .pv (.str op1.old_)]] ?_ ?_
    · simp -implicitDefEqProofs only [RUNS, qindex, Nat.reduceAdd, Nat.reduceLeDiff, Nat.reduceSub, reduceIte, Nat.reduceEqDiff, Nat.reduceLT, reduceCtorEq, Nat.reduceMul, if_true, if_false, eq_self, ne_eq, env_bT, T_3, NsOp.pv_eq, Word.pv_eq, Chan.pv_eq, Target.pv_eq, P38_eq, Mount.pv_eq, P31_eq, Ns.pv_eq, eqT_3]
    refine AW.cond (b := decide (op1.kind_ = 2)) rfl (fun hb38 => ?_) (fun hb38 => ?_)
    · replace h := bif_t hb38 h
      refine AW.reg hS [(1, .ref 0 0), (3, .pv (.str [109, 111, 117, 110, 116]))] [.var [.pv (.int .i64 op1.kind_), .pv (.int .i64 op1.flag_), .pv (.str op1.new_), .pv (.str op1.old_)]] ?_ ?_
      · simp -implicitDefEqProofs only [RUNS, qindex, Nat.reduceAdd, Nat.reduceLeDiff, Nat.reduceSub, reduceIte, Nat.reduceEqDiff, Nat.reduceLT, reduceCtorEq, Nat.reduceMul, if_true, if_false, eq_self, ne_eq, env_bT, NsOp.pv_eq, Word.pv_eq, Chan.pv_eq, Target.pv_eq, P38_eq, Mount.pv_eq, P31_eq, Ns.pv_eq]
      exact ⟨[109, 111, 117, 110, 116], h, (Weak.norm (m := 1) (Nat.le_of_ble_eq_true rfl) ⟨rfl, rfl, trivial⟩ rfl rfl rfl)⟩
    · replace h := bif_f hb38 h
      refine AW.seq ?_
      refine AW.reg hS [(1, .ref 0 0), (6, .pv (.int .i64 op1.kind_)), (15, .pv (.bool (decide (op1.kind_ = 3))))] [.var [.pv (.int .i64 op1.kind_), .pv (.int .i64 op1.flag_), .pv (.str op1.new_), .pv (.str op1.old_)]] ?_ ?_
      · simp -implicitDefEqProofs only [RUNS, qindex, Nat.reduceAdd, Nat.reduceLeDiff, Nat.reduceSub, reduceIte, Nat.reduceEqDiff, Nat.reduceLT, reduceCtorEq, Nat.reduceMul, if_true, if_false, eq_self, ne_eq, env_bT, T_3, NsOp.pv_eq, Word.pv_eq, Chan.pv_eq, Target.pv_eq, P38_eq, Mount.pv_eq, P31_eq, Ns.pv_eq, eqT_3]
      refine AW.cond (b := decide (op1.kind_ = 3)) rfl (fun hb39 => ?_) (fun hb39 => ?_)
      · replace h := bif_t hb39 h
        refine AW.seq ?_
        refine AW.seq ?_
        refine AW.reg hS [(1, .ref 0 0), (19, .pv (.bool (decide (op1.new_ = []))))] [.var [.pv (.int .i64 op1.kind_), .pv (.int .i64 op1.flag_), .pv (.str op1.new_), .pv (.str op1.old_)]] ?_ ?_
        · simp -implicitDefEqProofs only [RUNS, qindex, Nat.reduceAdd, Nat.reduceLeDiff, Nat.reduceSub, reduceIte, Nat.reduceEqDiff, Nat.reduceLT, reduceCtorEq, Nat.reduceMul, if_true, if_false, eq_self, ne_eq, env_bT, T_9, T_23, NsOp.pv_eq, Word.pv_eq, Chan.pv_eq, Target.pv_eq, P38_eq, Mount.pv_eq, P31_eq, Ns.pv_eq, eqT_9]
        refine AW.cond (b := decide (op1.new_ = [])) rfl (fun hb40 => ?_) (fun hb40 => ?_)
        · replace h := bif_t hb40 h
          refine AW.seq ?_
          replace h := Option.bind_eq_some_iff.1 h; obtain ⟨r41, q42, h⟩ := h
          have f43 := c_F39 op1.old_ r41 q42
          try dsimp only at f43
          replace h := Option.bind_eq_some_iff.1 h; obtain ⟨s44, q45, h⟩ := h
          have f46 := catO_f q45
          try simp only [List.length_cons, List.length_nil, Nat.zero_add, Nat.reduceAdd, Nat.reduceLeDiff, Nat.add_zero, Nat.reduceMul] at f46
          refine AW.reg hS [(2, .pv (.str s44))] [.var [.pv (.int .i64 op1.kind_), .pv (.int .i64 op1.flag_), .pv (.str op1.new_), .pv (.str op1.old_)]] ?_ ?_
          · simp -implicitDefEqProofs only [RUNS, qindex, Nat.reduceAdd, Nat.reduceLeDiff, Nat.reduceSub, reduceIte, Nat.reduceEqDiff, Nat.reduceLT, reduceCtorEq, Nat.reduceMul, if_true, if_false, eq_self, ne_eq, env_bT, T_9, T_23, NsOp.pv_eq, Word.pv_eq, Chan.pv_eq, Target.pv_eq, P38_eq, Mount.pv_eq, P31_eq, Ns.pv_eq, pf_39, f43, eqT_9, f46.1, f46.2]
          refine AW.ret ?_
          cases h
          show finish _ _ _ _ _ = _
          first | rfl | (simp [finish, resOf, renArgs, toPV, selObjs, sl])
        · replace h := bif_f hb40 h
          refine AW.skip ?_
          refine AW.reg hS [(1, .ref 0 0), (3, .pv (.str [117, 110, 109, 111, 117, 110, 116]))] [.var [.pv (.int .i64 op1.kind_), .pv (.int .i64 op1.flag_), .pv (.str op1.new_), .pv (.str op1.old_)]] ?_ ?_
          · simp -implicitDefEqProofs only [RUNS, qindex, Nat.reduceAdd, Nat.reduceLeDiff, Nat.reduceSub, reduceIte, Nat.reduceEqDiff, Nat.reduceLT, reduceCtorEq, Nat.reduceMul, if_true, if_false, eq_self, ne_eq, env_bT, NsOp.pv_eq, Word.pv_eq, Chan.pv_eq, Target.pv_eq, P38_eq, Mount.pv_eq, P31_eq, Ns.pv_eq]
          exact ⟨[117, 110, 109, 111, 117, 110, 116], h, (Weak.norm (m := 1) (Nat.le_of_ble_eq_true rfl) ⟨rfl, rfl, trivial⟩ rfl rfl rfl)⟩
      · replace h := bif_f hb39 h
        refine AW.seq ?_
        refine AW.reg hS [(1, .ref 0 0), (24, .pv (.bool (decide (op1.kind_ = 4))))] [.var [.pv (.int .i64 op1.kind_), .pv (.int .i64 op1.flag_), .pv (.str op1.new_), .pv (.str op1.old_)]] ?_ ?_
        · simp -implicitDefEqProofs only [RUNS, qindex, Nat.reduceAdd, Nat.reduceLeDiff, Nat.reduceSub, reduceIte, Nat.reduceEqDiff, Nat.reduceLT, reduceCtorEq, Nat.reduceMul, if_true, if_false, eq_self, ne_eq, env_bT, T_3, NsOp.pv_eq, Word.pv_eq, Chan.pv_eq, Target.pv_eq, P38_eq, Mount.pv_eq, P31_eq, Ns.pv_eq, eqT_3]
        refine AW.cond (b := decide (op1.kind_ = 4)) rfl (fun hb47 => ?_) (fun hb47 => ?_)
        · replace h := bif_t hb47 h
          refine AW.seq ?_
          refine AW.reg hS [(2, .pv (.str [99, 108, 101, 97, 114]))] [.var [.pv (.int .i64 op1.kind_), .pv (.int .i64 op1.flag_), .pv (.str op1.new_), .pv (.str op1.old_)]] ?_ ?_
          · simp -implicitDefEqProofs only [RUNS, qindex, Nat.reduceAdd, Nat.reduceLeDiff, Nat.reduceSub, reduceIte, Nat.reduceEqDiff, Nat.reduceLT, reduceCtorEq, Nat.reduceMul, if_true, if_false, eq_self, ne_eq, env_bT, NsOp.pv_eq, Word.pv_eq, Chan.pv_eq, Target.pv_eq, P38_eq, Mount.pv_eq, P31_eq, Ns.pv_eq]
          refine AW.ret ?_
          cases h
          show finish _ _ _ _ _ = _
          first | rfl | (simp [finish, resOf, renArgs, toPV, selObjs, sl])
        · replace h := bif_f hb47 h
          refine AW.seq ?_
          replace h := Option.bind_eq_some_iff.1 h; obtain ⟨r48, q49, h⟩ := h
          have f50 := c_F39 op1.new_ r48 q49
          try dsimp only at f50
          replace h := Option.bind_eq_some_iff.1 h; obtain ⟨s51, q52, h⟩ := h
          have f53 := catO_f q52
          try simp only [List.length_cons, List.length_nil, Nat.zero_add, Nat.reduceAdd, Nat.reduceLeDiff, Nat.add_zero, Nat.reduceMul] at f53
          refine AW.reg hS [(2, .pv (.str s51))] [.var [.pv (.int .i64 op1.kind_), .pv (.int .i64 op1.flag_), .pv (.str op1.new_), .pv (.str op1.old_)]] ?_ ?_
          · simp -implicitDefEqProofs only [RUNS, qindex, Nat.reduceAdd, Nat.reduceLeDiff, Nat.reduceSub, reduceIte, Nat.reduceEqDiff, Nat.reduceLT, reduceCtorEq, Nat.reduceMul, if_true, if_false, eq_self, ne_eq, env_bT, T_9, T_23, NsOp.pv_eq, Word.pv_eq, Chan.pv_eq, Target.pv_eq, P38_eq, Mount.pv_eq, P31_eq, Ns.pv_eq, pf_39, f50, eqT_9, f53.1, f53.2]
          refine AW.ret ?_
          cases h
          show finish _ _ _ _ _ = _
          first | rfl | (simp [finish, resOf, renArgs, toPV, selObjs, sl])

set_option maxHeartbeats 4000000 in
theorem g_F11 {O : Orc} (hS : Sound env O) (hpf : O.pf = pfn) (c_F19 : C_F19 O) (c_F24 : C_F24 O) (op1 : NsOp) (r2 : Str) (r3 : Int) (h : F11 op1 = some (r2, r3)) : Good env 11 [.pv (.agg [.int .i64 op1.kind_, .int .i64 op1.flag_, .str op1.new_, .str op1.old_])] [] [.pv (.str r2), .pv (.int .i64 r3)] [] := by
  have pf_19 : O.pf 19 = true := by rw [hpf]; rfl
  have pf_24 : O.pf 24 = true := by rw [hpf]; rfl
  refine Good.start (fn := Tryd.f11) (N := 9) rfl rfl rfl (by simp) [] _ rfl rfl ?_
  rw [F11] at h
  refine AW.seq ?_
  refine AW.reg hS [(1, .ref 0 0)] [.var [.pv (.int .i64 op1.kind_), .pv (.int .i64 op1.flag_), .pv (.str op1.new_), .pv (.str op1.old_)]] ?_ ?_
  · simp -implicitDefEqProofs only [RUNS, qindex, Nat.reduceAdd, Nat.reduceLeDiff, Nat.reduceSub, reduceIte, Nat.reduceEqDiff, Nat.reduceLT, reduceCtorEq, Nat.reduceMul, if_true, if_false, eq_self, ne_eq, env_bT, T_23, NsOp.pv_eq, Word.pv_eq, Chan.pv_eq, Target.pv_eq, P38_eq, Mount.pv_eq, P31_eq, Ns.pv_eq]
  refine AW.seq ?_
  refine AW.seq ?_
  replace h := Option.bind_eq_some_iff.1 h; obtain ⟨r4, q5, h⟩ := h
  have f6 := c_F19 op1 r4 q5
  try dsimp only at f6
  refine AW.reg hS [(1, .ref 0 0), (6, .pv (.bool (!r4)))] [.var [.pv (.int .i64 op1.kind_), .pv (.int .i64 op1.flag_), .pv (.str op1.new_), .pv (.str op1.old_)]] ?_ ?_
  · simp -implicitDefEqProofs only [RUNS, qindex, Nat.reduceAdd, Nat.reduceLeDiff, Nat.reduceSub, reduceIte, Nat.reduceEqDiff, Nat.reduceLT, reduceCtorEq, Nat.reduceMul, if_true, if_false, eq_self, ne_eq, env_bT, T_23, NsOp.pv_eq, Word.pv_eq, Chan.pv_eq, Target.pv_eq, P38_eq, Mount.pv_eq, P31_eq, Ns.pv_eq, pf_19, f6]
  refine AW.cond (b := !r4) rfl (fun hb7 => ?_) (fun hb7 => ?_)
  · replace h := bif_t hb7 h
    refine AW.seq ?_
    refine AW.reg hS [(2, .pv (.str [])), (3, .pv (.int .i64 1))] [.var [.pv (.int .i64 op1.kind_), .pv (.int .i64 op1.flag_), .pv (.str op1.new_), .pv (.str op1.old_)]] ?_ ?_
    · simp -implicitDefEqProofs only [RUNS, qindex, Nat.reduceAdd, Nat.reduceLeDiff, Nat.reduceSub, reduceIte, Nat.reduceEqDiff, Nat.reduceLT, reduceCtorEq, Nat.reduceMul, if_true, if_false, eq_self, ne_eq, env_bT, NsOp.pv_eq, Word.pv_eq, Chan.pv_eq, Target.pv_eq, P38_eq, Mount.pv_eq, P31_eq, Ns.pv_eq]
    refine AW.ret ?_
    cases h
    show finish _ _ _ _ _ = _
    first | rfl | (simp [finish, resOf, renArgs, toPV, selObjs, sl])
  · replace h := bif_f hb7 h
    refine AW.skip ?_
    refine AW.seq ?_
    replace h := Option.bind_eq_some_iff.1 h; obtain ⟨r8, q9, h⟩ := h
    have f10 := c_F24 op1 r8 q9
    try dsimp only at f10
    refine AW.reg hS [(2, .pv (.str r8)), (3, .pv (.int .i64 0))] [.var [.pv (.int .i64 op1.kind_), .pv (.int .i64 op1.flag_), .pv (.str op1.new_), .pv (.str op1.old_)]] ?_ ?_
    · simp -implicitDefEqProofs only [RUNS, qindex, Nat.reduceAdd, Nat.reduceLeDiff, Nat.reduceSub, reduceIte, Nat.reduceEqDiff, Nat.reduceLT, reduceCtorEq, Nat.reduceMul, if_true, if_false, eq_self, ne_eq, env_bT, T_23, NsOp.pv_eq, Word.pv_eq, Chan.pv_eq, Target.pv_eq, P38_eq, Mount.pv_eq, P31_eq, Ns.pv_eq, pf_24, f10]
    refine AW.ret ?_
    cases h
    show finish _ _ _ _ _ = _
    first | rfl | (simp [finish, resOf, renArgs, toPV, selObjs, sl])

set_option maxHeartbeats 4000000 in
theorem g_F3 {O : Orc} (hS : Sound env O) (hpf : O.pf = pfn) (c_F8 : C_F8 O) (c_F9 : C_F9 O) (c_F10 : C_F10 O) (c_F11 : C_F11 O) (op1 : NsOp) (r2 : Bool) (h : F3 op1 = some r2) : Good env 3 [.pv (.agg [.int .i64 op1.kind_, .int .i64 op1.flag_, .str op1.new_, .str op1.old_])] [] [.pv (.bool r2)] [] := by
  have pf_8 : O.pf 8 = true := by rw [hpf]; rfl
  have pf_9 : O.pf 9 = true := by rw [hpf]; rfl
  have pf_10 : O.pf 10 = true := by rw [hpf]; rfl
  have pf_11 : O.pf 11 = true := by rw [hpf]; rfl
  refine Good.start (fn := Tryd.f3) (N := 32) rfl rfl rfl (by simp) [] _ rfl rfl ?_
  rw [F3] at h
  refine AW.seq ?_
  refine AW.reg hS [(1, .ref 0 0)] [.var [.pv (.int .i64 op1.kind_), .pv (.int .i64 op1.flag_), .pv (.str op1.new_), .pv (.str op1.old_)]] ?_ ?_
  · simp -implicitDefEqProofs only [RUNS, qindex, Nat.reduceAdd, Nat.reduceLeDiff, Nat.reduceSub, reduceIte, Nat.reduceEqDiff, Nat.reduceLT, reduceCtorEq, Nat.reduceMul, if_true, if_false, eq_self, ne_eq, env_bT, T_23, NsOp.pv_eq, Word.pv_eq, Chan.pv_eq, Target.pv_eq, P38_eq, Mount.pv_eq, P31_eq, Ns.pv_eq]
  refine AW.seq ?_
  refine AW.seq ?_
  replace h := Option.bind_eq_some_iff.1 h; obtain ⟨r3, q4, h⟩ := h
  have f5 := c_F8 op1 r3 q4
  try dsimp only at f5
  refine AW.reg hS [(1, .ref 0 0), (9, .pv (.bool (!r3)))] [.var [.pv (.int .i64 op1.kind_), .pv (.int .i64 op1.flag_), .pv (.str op1.new_), .pv (.str op1.old_)]] ?_ ?_
  · simp -implicitDefEqProofs only [RUNS, qindex, Nat.reduceAdd, Nat.reduceLeDiff, Nat.reduceSub, reduceIte, Nat.reduceEqDiff, Nat.reduceLT, reduceCtorEq, Nat.reduceMul, if_true, if_false, eq_self, ne_eq, env_bT, T_23, NsOp.pv_eq, Word.pv_eq, Chan.pv_eq, Target.pv_eq, P38_eq, Mount.pv_eq, P31_eq, Ns.pv_eq, pf_8, f5]
  refine AW.cond (b := !r3) rfl (fun hb6 => ?_) (fun hb6 => ?_)
  · replace h := bif_t hb6 h
    refine AW.seq ?_
    replace h := Option.bind_eq_some_iff.1 h; obtain ⟨r7, q8, h⟩ := h
    have f9 := c_F9 r7 q8
    try dsimp only at f9
    refine AW.reg hS [(2, .pv (.bool r7))] [.var [.pv (.int .i64 op1.kind_), .pv (.int .i64 op1.flag_), .pv (.str op1.new_), .pv (.str op1.old_)]] ?_ ?_
    · simp -implicitDefEqProofs only [RUNS, qindex, Nat.reduceAdd, Nat.reduceLeDiff, Nat.reduceSub, reduceIte, Nat.reduceEqDiff, Nat.reduceLT, reduceCtorEq, Nat.reduceMul, if_true, if_false, eq_self, ne_eq, env_bT, NsOp.pv_eq, Word.pv_eq, Chan.pv_eq, Target.pv_eq, P38_eq, Mount.pv_eq, P31_eq, Ns.pv_eq, pf_9, f9]
    refine AW.ret ?_
    cases h
    show finish _ _ _ _ _ = _
    first | rfl | (simp [finish, resOf, renArgs, toPV, selObjs, sl])
  · replace h := bif_f hb6 h
    refine AW.skip ?_
    refine AW.seq ?_
    replace h := Option.bind_eq_some_iff.1 h; obtain ⟨⟨r10, r11⟩, q12, h⟩ := h
    dsimp only at h
    have f13 := c_F10 op1 r10 r11 q12
    try dsimp only at f13
    refine AW.reg hS [(1, .ref 0 0), (3, .pv (.str r10)), (4, .pv (.int .i64 r11))] [.var [.pv (.int .i64 op1.kind_), .pv (.int .i64 op1.flag_), .pv (.str op1.new_), .pv (.str op1.old_)]] ?_ ?_
    · simp -implicitDefEqProofs only [RUNS, qindex, Nat.reduceAdd, Nat.reduceLeDiff, Nat.reduceSub, reduceIte, Nat.reduceEqDiff, Nat.reduceLT, reduceCtorEq, Nat.reduceMul, if_true, if_false, eq_self, ne_eq, env_bT, T_23, NsOp.pv_eq, Word.pv_eq, Chan.pv_eq, Target.pv_eq, P38_eq, Mount.pv_eq, P31_eq, Ns.pv_eq, pf_10, f13]
    refine AW.seq ?_
    replace h := Option.bind_eq_some_iff.1 h; obtain ⟨⟨r14, r15⟩, q16, h⟩ := h
    dsimp only at h
    have f17 := c_F11 op1 r14 r15 q16
    try dsimp only at f17
    refine AW.reg hS [(3, .pv (.str r10)), (4, .pv (.int .i64 r11)), (5, .pv (.str r14)), (6, .pv (.int .i64 r15))] [.var [.pv (.int .i64 op1.kind_), .pv (.int .i64 op1.flag_), .pv (.str op1.new_), .pv (.str op1.old_)]] ?_ ?_
    · simp -implicitDefEqProofs only [RUNS, qindex, Nat.reduceAdd, Nat.reduceLeDiff, Nat.reduceSub, reduceIte, Nat.reduceEqDiff, Nat.reduceLT, reduceCtorEq, Nat.reduceMul, if_true, if_false, eq_self, ne_eq, env_bT, T_23, NsOp.pv_eq, Word.pv_eq, Chan.pv_eq, Target.pv_eq, P38_eq, Mount.pv_eq, P31_eq, Ns.pv_eq, pf_11, f17]
    refine AW.seq ?_
    replace h := Option.bind_eq_some_iff.1 h; obtain ⟨r18, q19, h⟩ := h
    have f20 := fun hg => c_F9 r18 (guardO_t q19 hg)
    try dsimp only at f20
    refine AW.reg hS [(2, .pv (.bool ((decide (r10 = r14) && decide (r11 = r15)) && r18)))] [.var [.pv (.int .i64 op1.kind_), .pv (.int .i64 op1.flag_), .pv (.str op1.new_), .pv (.str op1.old_)]] ?_ ?_
    · clear h
      (simp -implicitDefEqProofs only [RUNS, qindex, Nat.reduceAdd, Nat.reduceLeDiff, Nat.reduceSub, reduceIte, Nat.reduceEqDiff, Nat.reduceLT, reduceCtorEq, Nat.reduceMul, if_true, if_false, eq_self, ne_eq, env_bT, T_9, T_26, NsOp.pv_eq, Word.pv_eq, Chan.pv_eq, Target.pv_eq, P38_eq, Mount.pv_eq, P31_eq, Ns.pv_eq, eqT_9, eqT_26, pf_9, f20]); repeat' (split <;> rename_i hb <;> (try simp only [HBS, ge_iff_le, gt_iff_lt] at hb) <;> simp -implicitDefEqProofs only [RUNS, qindex, Nat.reduceAdd, Nat.reduceLeDiff, Nat.reduceSub, reduceIte, Nat.reduceEqDiff, Nat.reduceLT, reduceCtorEq, Nat.reduceMul, if_true, if_false, eq_self, ne_eq, env_bT, T_9, T_26, NsOp.pv_eq, Word.pv_eq, Chan.pv_eq, Target.pv_eq, P38_eq, Mount.pv_eq, P31_eq, Ns.pv_eq, eqT_9, eqT_26, pf_9, f20, *, decide_true, decide_false, Decidable.not_not, not_false_eq_true, not_true_eq_false])
      all_goals (first | (simp only [BOOLS]; done) | (simp [*]; done) | ((try simp only [CLOS, beq_iff_eq, bne_iff_ne, ne_eq] at *) <;> omega) | (simp_all; done) | (simp_all <;> omega))
    refine AW.ret ?_
    cases h
    show finish _ _ _ _ _ = _
    first | rfl | (simp [finish, resOf, renArgs, toPV, selObjs, sl])

set_option maxHeartbeats 4000000 in
theorem g_F12 {O : Orc} (hS : Sound env O) (hpf : O.pf = pfn) (n1 : Ns) (r2 : Bool) (h : F12 n1 = some r2) : Good env 12 [.pv (.agg [.int .i64 n1.id_, .int .i64 n1.root_.dev_, .int .i64 n1.root_.id_, .int .i64 n1.root_.fid_, .str n1.root_.path_, .str n1.root_.name_, .slice (List.map Mount.pv n1.mounts_)])] [] [.pv (.bool r2)] [] := by
  refine Good.start (fn := Tryd.f12) (N := 49) rfl rfl rfl (by simp) [] _ rfl rfl ?_
  rw [F12] at h
  refine AW.seq ?_
  refine AW.reg hS [(1, .ref 0 0)] [.var [.pv (.int .i64 n1.id_), .pv (.int .i64 n1.root_.dev_), .pv (.int .i64 n1.root_.id_), .pv (.int .i64 n1.root_.fid_), .pv (.str n1.root_.path_), .pv (.str n1.root_.name_), .pv (.slice (List.map Mount.pv n1.mounts_))]] ?_ ?_
  · simp -implicitDefEqProofs only [RUNS, qindex, Nat.reduceAdd, Nat.reduceLeDiff, Nat.reduceSub, reduceIte, Nat.reduceEqDiff, Nat.reduceLT, reduceCtorEq, Nat.reduceMul, if_true, if_false, eq_self, ne_eq, env_bT, T_33, NsOp.pv_eq, Word.pv_eq, Chan.pv_eq, Target.pv_eq, P38_eq, Mount.pv_eq, P31_eq, Ns.pv_eq]
  refine AW.seq ?_
  refine AW.seq ?_
  refine AW.reg hS [(1, .ref 0 0), (9, .pv (.bool (decide (20 < (n1.mounts_.length : Int)))))] [.var [.pv (.int .i64 n1.id_), .pv (.int .i64 n1.root_.dev_), .pv (.int .i64 n1.root_.id_), .pv (.int .i64 n1.root_.fid_), .pv (.str n1.root_.path_), .pv (.str n1.root_.name_), .pv (.slice (List.map Mount.pv n1.mounts_))]] ?_ ?_
  · simp -implicitDefEqProofs only [RUNS, qindex, Nat.reduceAdd, Nat.reduceLeDiff, Nat.reduceSub, reduceIte, Nat.reduceEqDiff, Nat.reduceLT, reduceCtorEq, Nat.reduceMul, if_true, if_false, eq_self, ne_eq, env_bT, T_3, T_31, T_33, T_40, NsOp.pv_eq, Word.pv_eq, Chan.pv_eq, Target.pv_eq, P38_eq, Mount.pv_eq, P31_eq, Ns.pv_eq, eqT_3]
  refine AW.cond (b := decide (20 < (n1.mounts_.length : Int))) rfl (fun hb3 => ?_) (fun hb3 => ?_)
  · replace h := bif_t hb3 h
    refine AW.seq ?_
    refine AW.reg hS [(2, .pv (.bool false))] [.var [.pv (.int .i64 n1.id_), .pv (.int .i64 n1.root_.dev_), .pv (.int .i64 n1.root_.id_), .pv (.int .i64 n1.root_.fid_), .pv (.str n1.root_.path_), .pv (.str n1.root_.name_), .pv (.slice (List.map Mount.pv n1.mounts_))]] ?_ ?_
    · simp -implicitDefEqProofs only [RUNS, qindex, Nat.reduceAdd, Nat.reduceLeDiff, Nat.reduceSub, reduceIte, Nat.reduceEqDiff, Nat.reduceLT, reduceCtorEq, Nat.reduceMul, if_true, if_false, eq_self, ne_eq, env_bT, NsOp.pv_eq, Word.pv_eq, Chan.pv_eq, Target.pv_eq, P38_eq, Mount.pv_eq, P31_eq, Ns.pv_eq]
    refine AW.ret ?_
    cases h
    show finish _ _ _ _ _ = _
    first | rfl | (simp [finish, resOf, renArgs, toPV, selObjs, sl])
  · replace h := bif_f hb3 h
    refine AW.skip ?_
    refine AW.seq ?_
    refine AW.seq ?_
    refine AW.reg hS [(1, .ref 0 0), (12, .pv (.int .i64 (n1.mounts_.length : Int))), (13, .pv (.int .i64 0))] [.var [.pv (.int .i64 n1.id_), .pv (.int .i64 n1.root_.dev_), .pv (.int .i64 n1.root_.id_), .pv (.int .i64 n1.root_.fid_), .pv (.str n1.root_.path_), .pv (.str n1.root_.name_), .pv (.slice (List.map Mount.pv n1.mounts_))]] ?_ ?_
    · simp -implicitDefEqProofs only [RUNS, qindex, Nat.reduceAdd, Nat.reduceLeDiff, Nat.reduceSub, reduceIte, Nat.reduceEqDiff, Nat.reduceLT, reduceCtorEq, Nat.reduceMul, if_true, if_false, eq_self, ne_eq, env_bT, T_31, T_33, T_40, NsOp.pv_eq, Word.pv_eq, Chan.pv_eq, Target.pv_eq, P38_eq, Mount.pv_eq, P31_eq, Ns.pv_eq]
    refine AW.block ?_
    refine AW.weak (Weak.slots (L := [(1, .ref 0 0), (12, .pv (.int .i64 (n1.mounts_.length : Int))), (13, .pv (.int .i64 0))]) ⟨rfl, rfl, rfl, trivial⟩) ?_
    refine AW.loopI (α := Nat × Int) (fun (_, i4) => ⟨sl [(1, .ref 0 0), (12, .pv (.int .i64 (n1.mounts_.length : Int))), (13, .pv (.int .i64 i4))], 49, [.var [.pv (.int .i64 n1.id_), .pv (.int .i64 n1.root_.dev_), .pv (.int .i64 n1.root_.id_), .pv (.int .i64 n1.root_.fid_), .pv (.str n1.root_.path_), .pv (.str n1.root_.name_), .pv (.slice (List.map Mount.pv n1.mounts_))]]⟩) (fun x => iter (F12_b2 n1) x.1 x.2 = some r2) (fun x => x.1) (BIG, 0) h ?_
    clear h
    intro ⟨n23, i4⟩ h
    replace h := iter_some h; obtain ⟨m7, rfl, h⟩ := h
    rw [F12_b2] at h
    try dsimp only at h
    show AW _ _ _ _ ⟨sl [(1, .ref 0 0), (12, .pv (.int .i64 (n1.mounts_.length : Int))), (13, .pv (.int .i64 i4))], 49, [.var [.pv (.int .i64 n1.id_), .pv (.int .i64 n1.root_.dev_), .pv (.int .i64 n1.root_.id_), .pv (.int .i64 n1.root_.fid_), .pv (.str n1.root_.path_), .pv (.str n1.root_.name_), .pv (.slice (List.map Mount.pv n1.mounts_))]]⟩
    refine AW.seq ?_
    refine AW.reg hS [(1, .ref 0 0), (12, .pv (.int .i64 (n1.mounts_.length : Int))), (13, .pv (.int .i64 i4)), (14, .pv (.bool (decide (i4 < (n1.mounts_.length : Int)))))] [.var [.pv (.int .i64 n1.id_), .pv (.int .i64 n1.root_.dev_), .pv (.int .i64 n1.root_.id_), .pv (.int .i64 n1.root_.fid_), .pv (.str n1.root_.path_), .pv (.str n1.root_.name_), .pv (.slice (List.map Mount.pv n1.mounts_))]] ?_ ?_
    · simp -implicitDefEqProofs only [RUNS, qindex, Nat.reduceAdd, Nat.reduceLeDiff, Nat.reduceSub, reduceIte, Nat.reduceEqDiff, Nat.reduceLT, reduceCtorEq, Nat.reduceMul, if_true, if_false, eq_self, ne_eq, env_bT, T_3, NsOp.pv_eq, Word.pv_eq, Chan.pv_eq, Target.pv_eq, P38_eq, Mount.pv_eq, P31_eq, Ns.pv_eq, eqT_3]
    refine AW.seq ?_
    refine AW.cond (b := decide (i4 < (n1.mounts_.length : Int))) rfl (fun hb8 => ?_) (fun hb8 => ?_)
    · replace h := bif_t hb8 h
      refine AW.skip ?_
      refine AW.seq ?_
      refine AW.block ?_
      refine AW.seq ?_
      refine AW.reg hS [(1, .ref 0 0), (3, .pv (.int .i64 i4)), (12, .pv (.int .i64 (n1.mounts_.length : Int))), (13, .pv (.int .i64 i4))] [.var [.pv (.int .i64 n1.id_), .pv (.int .i64 n1.root_.dev_), .pv (.int .i64 n1.root_.id_), .pv (.int .i64 n1.root_.fid_), .pv (.str n1.root_.path_), .pv (.str n1.root_.name_), .pv (.slice (List.map Mount.pv n1.mounts_))]] ?_ ?_
      · simp -implicitDefEqProofs only [RUNS, qindex, Nat.reduceAdd, Nat.reduceLeDiff, Nat.reduceSub, reduceIte, Nat.reduceEqDiff, Nat.reduceLT, reduceCtorEq, Nat.reduceMul, if_true, if_false, eq_self, ne_eq, env_bT, NsOp.pv_eq, Word.pv_eq, Chan.pv_eq, Target.pv_eq, P38_eq, Mount.pv_eq, P31_eq, Ns.pv_eq]
      refine AW.seq ?_
      replace h := Option.bind_eq_some_iff.1 h; obtain ⟨u9, q10, h⟩ := h
      have f11 := lidx_f q10
      refine AW.reg hS [(1, .ref 0 0), (4, .ref 1 0), (12, .pv (.int .i64 (n1.mounts_.length : Int))), (13, .pv (.int .i64 i4))] [.var [.pv (.int .i64 n1.id_), .pv (.int .i64 n1.root_.dev_), .pv (.int .i64 n1.root_.id_), .pv (.int .i64 n1.root_.fid_), .pv (.str n1.root_.path_), .pv (.str n1.root_.name_), .pv (.slice (List.map Mount.pv n1.mounts_))], .var [.pv (.int .i64 u9.from_.dev_), .pv (.int .i64 u9.from_.id_), .pv (.int .i64 u9.from_.fid_), .pv (.str u9.from_.path_), .pv (.str u9.from_.name_), .pv (.slice (List.map Target.pv u9.to_))]] ?_ ?_
      · simp -implicitDefEqProofs only [RUNS, qindex, Nat.reduceAdd, Nat.reduceLeDiff, Nat.reduceSub, reduceIte, Nat.reduceEqDiff, Nat.reduceLT, reduceCtorEq, Nat.reduceMul, if_true, if_false, eq_self, ne_eq, env_bT, T_31, T_33, T_40, NsOp.pv_eq, Word.pv_eq, Chan.pv_eq, Target.pv_eq, P38_eq, Mount.pv_eq, P31_eq, Ns.pv_eq, f11.1, f11.2.1]
      refine AW.seq ?_
      refine AW.seq ?_
      refine AW.reg hS [(1, .ref 0 0), (4, .ref 1 0), (12, .pv (.int .i64 (n1.mounts_.length : Int))), (13, .pv (.int .i64 i4)), (31, .pv (.bool (decide (20 < (u9.to_.length : Int)) || decide (1100 < (u9.from_.name_.length : Int)))))] [.var [.pv (.int .i64 n1.id_), .pv (.int .i64 n1.root_.dev_), .pv (.int .i64 n1.root_.id_), .pv (.int .i64 n1.root_.fid_), .pv (.str n1.root_.path_), .pv (.str n1.root_.name_), .pv (.slice (List.map Mount.pv n1.mounts_))], .var [.pv (.int .i64 u9.from_.dev_), .pv (.int .i64 u9.from_.id_), .pv (.int .i64 u9.from_.fid_), .pv (.str u9.from_.path_), .pv (.str u9.from_.name_), .pv (.slice (List.map Target.pv u9.to_))]] ?_ ?_
      · clear h
        (simp -implicitDefEqProofs only [RUNS, qindex, Nat.reduceAdd, Nat.reduceLeDiff, Nat.reduceSub, reduceIte, Nat.reduceEqDiff, Nat.reduceLT, reduceCtorEq, Nat.reduceMul, if_true, if_false, eq_self, ne_eq, env_bT, T_3, T_9, T_30, T_38, T_40, T_42, NsOp.pv_eq, Word.pv_eq, Chan.pv_eq, Target.pv_eq, P38_eq, Mount.pv_eq, P31_eq, Ns.pv_eq, eqT_3]); repeat' (split <;> rename_i hb <;> (try simp only [HBS, ge_iff_le, gt_iff_lt] at hb) <;> simp -implicitDefEqProofs only [RUNS, qindex, Nat.reduceAdd, Nat.reduceLeDiff, Nat.reduceSub, reduceIte, Nat.reduceEqDiff, Nat.reduceLT, reduceCtorEq, Nat.reduceMul, if_true, if_false, eq_self, ne_eq, env_bT, T_3, T_9, T_30, T_38, T_40, T_42, NsOp.pv_eq, Word.pv_eq, Chan.pv_eq, Target.pv_eq, P38_eq, Mount.pv_eq, P31_eq, Ns.pv_eq, eqT_3, *, decide_true, decide_false, Decidable.not_not, not_false_eq_true, not_true_eq_false])
        all_goals (first | (simp only [BOOLS]; done) | (simp [*]; done) | ((try simp only [CLOS, beq_iff_eq, bne_iff_ne, ne_eq] at *) <;> omega) | (simp_all; done) | (simp_all <;> omega))
      refine AW.cond (b := (decide (20 < (u9.to_.length : Int)) || decide (1100 < (u9.from_.name_.length : Int)))) rfl (fun hb12 => ?_) (fun hb12 => ?_)
      · replace h := bif_t hb12 h
        refine AW.seq ?_
        refine AW.reg hS [(2, .pv (.bool false))] [.var [.pv (.int .i64 n1.id_), .pv (.int .i64 n1.root_.dev_), .pv (.int .i64 n1.root_.id_), .pv (.int .i64 n1.root_.fid_), .pv (.str n1.root_.path_), .pv (.str n1.root_.name_), .pv (.slice (List.map Mount.pv n1.mounts_))], .var [.pv (.int .i64 u9.from_.dev_), .pv (.int .i64 u9.from_.id_), .pv (.int .i64 u9.from_.fid_), .pv (.str u9.from_.path_), .pv (.str u9.from_.name_), .pv (.slice (List.map Target.pv u9.to_))]] ?_ ?_
        · simp -implicitDefEqProofs only [RUNS, qindex, Nat.reduceAdd, Nat.reduceLeDiff, Nat.reduceSub, reduceIte, Nat.reduceEqDiff, Nat.reduceLT, reduceCtorEq, Nat.reduceMul, if_true, if_false, eq_self, ne_eq, env_bT, NsOp.pv_eq, Word.pv_eq, Chan.pv_eq, Target.pv_eq, P38_eq, Mount.pv_eq, P31_eq, Ns.pv_eq]
        refine AW.ret ?_
        cases h
        show finish _ _ _ _ _ = _
        first | rfl | (simp [finish, resOf, renArgs, toPV, selObjs, sl])
      · replace h := bif_f hb12 h
        refine AW.skip ?_
        refine AW.seq ?_
        refine AW.reg hS [(1, .ref 0 0), (4, .ref 1 0), (12, .pv (.int .i64 (n1.mounts_.length : Int))), (13, .pv (.int .i64 i4)), (34, .pv (.int .i64 (u9.to_.length : Int))), (35, .pv (.int .i64 0))] [.var [.pv (.int .i64 n1.id_), .pv (.int .i64 n1.root_.dev_), .pv (.int .i64 n1.root_.id_), .pv (.int .i64 n1.root_.fid_), .pv (.str n1.root_.path_), .pv (.str n1.root_.name_), .pv (.slice (List.map Mount.pv n1.mounts_))], .var [.pv (.int .i64 u9.from_.dev_), .pv (.int .i64 u9.from_.id_), .pv (.int .i64 u9.from_.fid_), .pv (.str u9.from_.path_), .pv (.str u9.from_.name_), .pv (.slice (List.map Target.pv u9.to_))]] ?_ ?_
        · simp -implicitDefEqProofs only [RUNS, qindex, Nat.reduceAdd, Nat.reduceLeDiff, Nat.reduceSub, reduceIte, Nat.reduceEqDiff, Nat.reduceLT, reduceCtorEq, Nat.reduceMul, if_true, if_false, eq_self, ne_eq, env_bT, T_38, T_40, T_42, NsOp.pv_eq, Word.pv_eq, Chan.pv_eq, Target.pv_eq, P38_eq, Mount.pv_eq, P31_eq, Ns.pv_eq]
        refine AW.block ?_
        refine AW.weak (Weak.slots (L := [(1, .ref 0 0), (4, .ref 1 0), (12, .pv (.int .i64 (n1.mounts_.length : Int))), (13, .pv (.int .i64 i4)), (34, .pv (.int .i64 (u9.to_.length : Int))), (35, .pv (.int .i64 0))]) ⟨rfl, rfl, rfl, rfl, rfl, rfl, trivial⟩) ?_
        refine AW.loopI (α := Nat × Int) (fun (_, i13) => ⟨sl [(1, .ref 0 0), (4, .ref 1 0), (12, .pv (.int .i64 (n1.mounts_.length : Int))), (13, .pv (.int .i64 i4)), (34, .pv (.int .i64 (u9.to_.length : Int))), (35, .pv (.int .i64 i13))], 49, [.var [.pv (.int .i64 n1.id_), .pv (.int .i64 n1.root_.dev_), .pv (.int .i64 n1.root_.id_), .pv (.int .i64 n1.root_.fid_), .pv (.str n1.root_.path_), .pv (.str n1.root_.name_), .pv (.slice (List.map Mount.pv n1.mounts_))], .var [.pv (.int .i64 u9.from_.dev_), .pv (.int .i64 u9.from_.id_), .pv (.int .i64 u9.from_.fid_), .pv (.str u9.from_.path_), .pv (.str u9.from_.name_), .pv (.slice (List.map Target.pv u9.to_))]]⟩) (fun x => iter (F12_b3 u9 (iter (F12_b2 n1) m7) i4) x.1 x.2 = some r2) (fun x => x.1) (BIG, 0) h ?_
        clear h
        intro ⟨n22, i13⟩ h
        replace h := iter_some h; obtain ⟨m16, rfl, h⟩ := h
        rw [F12_b3] at h
        try dsimp only at h
        show AW _ _ _ _ ⟨sl [(1, .ref 0 0), (4, .ref 1 0), (12, .pv (.int .i64 (n1.mounts_.length : Int))), (13, .pv (.int .i64 i4)), (34, .pv (.int .i64 (u9.to_.length : Int))), (35, .pv (.int .i64 i13))], 49, [.var [.pv (.int .i64 n1.id_), .pv (.int .i64 n1.root_.dev_), .pv (.int .i64 n1.root_.id_), .pv (.int .i64 n1.root_.fid_), .pv (.str n1.root_.path_), .pv (.str n1.root_.name_), .pv (.slice (List.map Mount.pv n1.mounts_))], .var [.pv (.int .i64 u9.from_.dev_), .pv (.int .i64 u9.from_.id_), .pv (.int .i64 u9.from_.fid_), .pv (.str u9.from_.path_), .pv (.str u9.from_.name_), .pv (.slice (List.map Target.pv u9.to_))]]⟩
        refine AW.seq ?_
        refine AW.reg hS [(1, .ref 0 0), (4, .ref 1 0), (12, .pv (.int .i64 (n1.mounts_.length : Int))), (13, .pv (.int .i64 i4)), (34, .pv (.int .i64 (u9.to_.length : Int))), (35, .pv (.int .i64 i13)), (36, .pv (.bool (decide (i13 < (u9.to_.length : Int)))))] [.var [.pv (.int .i64 n1.id_), .pv (.int .i64 n1.root_.dev_), .pv (.int .i64 n1.root_.id_), .pv (.int .i64 n1.root_.fid_), .pv (.str n1.root_.path_), .pv (.str n1.root_.name_), .pv (.slice (List.map Mount.pv n1.mounts_))], .var [.pv (.int .i64 u9.from_.dev_), .pv (.int .i64 u9.from_.id_), .pv (.int .i64 u9.from_.fid_), .pv (.str u9.from_.path_), .pv (.str u9.from_.name_), .pv (.slice (List.map Target.pv u9.to_))]] ?_ ?_
        · simp -implicitDefEqProofs only [RUNS, qindex, Nat.reduceAdd, Nat.reduceLeDiff, Nat.reduceSub, reduceIte, Nat.reduceEqDiff, Nat.reduceLT, reduceCtorEq, Nat.reduceMul, if_true, if_false, eq_self, ne_eq, env_bT, T_3, NsOp.pv_eq, Word.pv_eq, Chan.pv_eq, Target.pv_eq, P38_eq, Mount.pv_eq, P31_eq, Ns.pv_eq, eqT_3]
        refine AW.seq ?_
        refine AW.cond (b := decide (i13 < (u9.to_.length : Int))) rfl (fun hb17 => ?_) (fun hb17 => ?_)
        · replace h := bif_t hb17 h
          refine AW.skip ?_
          refine AW.seq ?_
          refine AW.block ?_
          refine AW.seq ?_
          refine AW.reg hS [(1, .ref 0 0), (4, .ref 1 0), (5, .pv (.int .i64 i13)), (12, .pv (.int .i64 (n1.mounts_.length : Int))), (13, .pv (.int .i64 i4)), (34, .pv (.int .i64 (u9.to_.length : Int))), (35, .pv (.int .i64 i13))] [.var [.pv (.int .i64 n1.id_), .pv (.int .i64 n1.root_.dev_), .pv (.int .i64 n1.root_.id_), .pv (.int .i64 n1.root_.fid_), .pv (.str n1.root_.path_), .pv (.str n1.root_.name_), .pv (.slice (List.map Mount.pv n1.mounts_))], .var [.pv (.int .i64 u9.from_.dev_), .pv (.int .i64 u9.from_.id_), .pv (.int .i64 u9.from_.fid_), .pv (.str u9.from_.path_), .pv (.str u9.from_.name_), .pv (.slice (List.map Target.pv u9.to_))]] ?_ ?_
          · simp -implicitDefEqProofs only [RUNS, qindex, Nat.reduceAdd, Nat.reduceLeDiff, Nat.reduceSub, reduceIte, Nat.reduceEqDiff, Nat.reduceLT, reduceCtorEq, Nat.reduceMul, if_true, if_false, eq_self, ne_eq, env_bT, NsOp.pv_eq, Word.pv_eq, Chan.pv_eq, Target.pv_eq, P38_eq, Mount.pv_eq, P31_eq, Ns.pv_eq]
          refine AW.seq ?_
          replace h := Option.bind_eq_some_iff.1 h; obtain ⟨u18, q19, h⟩ := h
          have f20 := lidx_f q19
          refine AW.reg hS [(1, .ref 0 0), (4, .ref 1 0), (12, .pv (.int .i64 (n1.mounts_.length : Int))), (13, .pv (.int .i64 i4)), (34, .pv (.int .i64 (u9.to_.length : Int))), (35, .pv (.int .i64 i13)), (46, .pv (.bool (decide (1100 < (u18.chan_.name_.length : Int)))))] [.var [.pv (.int .i64 n1.id_), .pv (.int .i64 n1.root_.dev_), .pv (.int .i64 n1.root_.id_), .pv (.int .i64 n1.root_.fid_), .pv (.str n1.root_.path_), .pv (.str n1.root_.name_), .pv (.slice (List.map Mount.pv n1.mounts_))], .var [.pv (.int .i64 u9.from_.dev_), .pv (.int .i64 u9.from_.id_), .pv (.int .i64 u9.from_.fid_), .pv (.str u9.from_.path_), .pv (.str u9.from_.name_), .pv (.slice (List.map Target.pv u9.to_))]] ?_ ?_
          · simp -implicitDefEqProofs only [RUNS, qindex, Nat.reduceAdd, Nat.reduceLeDiff, Nat.reduceSub, reduceIte, Nat.reduceEqDiff, Nat.reduceLT, reduceCtorEq, Nat.reduceMul, if_true, if_false, eq_self, ne_eq, env_bT, T_3, T_9, T_30, T_38, T_40, T_42, NsOp.pv_eq, Word.pv_eq, Chan.pv_eq, Target.pv_eq, P38_eq, Mount.pv_eq, P31_eq, Ns.pv_eq, f20.1, f20.2.1, eqT_3]
          refine AW.cond (b := decide (1100 < (u18.chan_.name_.length : Int))) rfl (fun hb21 => ?_) (fun hb21 => ?_)
          · replace h := bif_t hb21 h
            refine AW.seq ?_
            refine AW.reg hS [(2, .pv (.bool false))] [.var [.pv (.int .i64 n1.id_), .pv (.int .i64 n1.root_.dev_), .pv (.int .i64 n1.root_.id_), .pv (.int .i64 n1.root_.fid_), .pv (.str n1.root_.path_), .pv (.str n1.root_.name_), .pv (.slice (List.map Mount.pv n1.mounts_))], .var [.pv (.int .i64 u9.from_.dev_), .pv (.int .i64 u9.from_.id_), .pv (.int .i64 u9.from_.fid_), .pv (.str u9.from_.path_), .pv (.str u9.from_.name_), .pv (.slice (List.map Target.pv u9.to_))]] ?_ ?_
            · simp -implicitDefEqProofs only [RUNS, qindex, Nat.reduceAdd, Nat.reduceLeDiff, Nat.reduceSub, reduceIte, Nat.reduceEqDiff, Nat.reduceLT, reduceCtorEq, Nat.reduceMul, if_true, if_false, eq_self, ne_eq, env_bT, NsOp.pv_eq, Word.pv_eq, Chan.pv_eq, Target.pv_eq, P38_eq, Mount.pv_eq, P31_eq, Ns.pv_eq]
            refine AW.ret ?_
            cases h
            show finish _ _ _ _ _ = _
            first | rfl | (simp [finish, resOf, renArgs, toPV, selObjs, sl])
          · replace h := bif_f hb21 h
            refine AW.skip ?_
            refine AW.reg hS [(1, .ref 0 0), (4, .ref 1 0), (12, .pv (.int .i64 (n1.mounts_.length : Int))), (13, .pv (.int .i64 i4)), (34, .pv (.int .i64 (u9.to_.length : Int))), (35, .pv (.int .i64 (IntKind.wrap .i64 (i13 + 1))))] [.var [.pv (.int .i64 n1.id_), .pv (.int .i64 n1.root_.dev_), .pv (.int .i64 n1.root_.id_), .pv (.int .i64 n1.root_.fid_), .pv (.str n1.root_.path_), .pv (.str n1.root_.name_), .pv (.slice (List.map Mount.pv n1.mounts_))], .var [.pv (.int .i64 u9.from_.dev_), .pv (.int .i64 u9.from_.id_), .pv (.int .i64 u9.from_.fid_), .pv (.str u9.from_.path_), .pv (.str u9.from_.name_), .pv (.slice (List.map Target.pv u9.to_))]] ?_ ?_
            · simp -implicitDefEqProofs only [RUNS, qindex, Nat.reduceAdd, Nat.reduceLeDiff, Nat.reduceSub, reduceIte, Nat.reduceEqDiff, Nat.reduceLT, reduceCtorEq, Nat.reduceMul, if_true, if_false, eq_self, ne_eq, env_bT, T_3, NsOp.pv_eq, Word.pv_eq, Chan.pv_eq, Target.pv_eq, P38_eq, Mount.pv_eq, P31_eq, Ns.pv_eq, eqT_3]
            exact ⟨(m16, IntKind.wrap .i64 (i13 + 1)), h, (Weak.norm (m := 2) (Nat.le_of_ble_eq_true rfl) ⟨rfl, rfl, rfl, rfl, rfl, rfl, trivial⟩ rfl rfl rfl), Nat.lt_succ_self _⟩
        · replace h := bif_f hb17 h
          refine AW.exit ?_
          refine AW.reg hS [(1, .ref 0 0), (12, .pv (.int .i64 (n1.mounts_.length : Int))), (13, .pv (.int .i64 (IntKind.wrap .i64 (i4 + 1))))] [.var [.pv (.int .i64 n1.id_), .pv (.int .i64 n1.root_.dev_), .pv (.int .i64 n1.root_.id_), .pv (.int .i64 n1.root_.fid_), .pv (.str n1.root_.path_), .pv (.str n1.root_.name_), .pv (.slice (List.map Mount.pv n1.mounts_))], .var [.pv (.int .i64 u9.from_.dev_), .pv (.int .i64 u9.from_.id_), .pv (.int .i64 u9.from_.fid_), .pv (.str u9.from_.path_), .pv (.str u9.from_.name_), .pv (.slice (List.map Target.pv u9.to_))]] ?_ ?_
          · simp -implicitDefEqProofs only [RUNS, qindex, Nat.reduceAdd, Nat.reduceLeDiff, Nat.reduceSub, reduceIte, Nat.reduceEqDiff, Nat.reduceLT, reduceCtorEq, Nat.reduceMul, if_true, if_false, eq_self, ne_eq, env_bT, T_3, NsOp.pv_eq, Word.pv_eq, Chan.pv_eq, Target.pv_eq, P38_eq, Mount.pv_eq, P31_eq, Ns.pv_eq, eqT_3]
          exact ⟨(m7, IntKind.wrap .i64 (i4 + 1)), h, (Weak.norm (m := 1) (Nat.le_of_ble_eq_true rfl) ⟨rfl, rfl, rfl, trivial⟩ rfl rfl rfl), Nat.lt_succ_self _⟩
    · replace h := bif_f hb8 h
      refine AW.exit ?_
      refine AW.seq ?_
      refine AW.reg hS [(2, .pv (.bool true))] [.var [.pv (.int .i64 n1.id_), .pv (.int .i64 n1.root_.dev_), .pv (.int .i64 n1.root_.id_), .pv (.int .i64 n1.root_.fid_), .pv (.str n1.root_.path_), .pv (.str n1.root_.name_), .pv (.slice (List.map Mount.pv n1.mounts_))]] ?_ ?_
      · simp -implicitDefEqProofs only [RUNS, qindex, Nat.reduceAdd, Nat.reduceLeDiff, Nat.reduceSub, reduceIte, Nat.reduceEqDiff, Nat.reduceLT, reduceCtorEq, Nat.reduceMul, if_true, if_false, eq_self, ne_eq, env_bT, NsOp.pv_eq, Word.pv_eq, Chan.pv_eq, Target.pv_eq, P38_eq, Mount.pv_eq, P31_eq, Ns.pv_eq]
      refine AW.ret ?_
      cases h
      show finish _ _ _ _ _ = _
      first | rfl | (simp [finish, resOf, renArgs, toPV, selObjs, sl])

end Go.Abs.U45
