/- The layer 47 laws: the functions walked. -/
import Derived.Test.YtdmihmnegakgbaaDoorD1
set_option linter.unusedVariables false
set_option linter.unusedSimpArgs false
set_option maxRecDepth 8000
namespace Go.Abs.U47
open Go.RowKit Go.Proofs

set_option maxHeartbeats 4000000 in
theorem g_F38 {O : Orc} (hS : Sound env O) (hpf : O.pf = pfn) (c_F20x2 : C_F20x2 O) (c_F23 : C_F23 O) (c_L_IndexByte : C_L_IndexByte O) (c_F54 : C_F54 O) (c_F34x2 : C_F34x2 O) (x1 : Str) (x2 : Int) (x3 : Int) (x4 : Int) (x5 : Int) (l6 : List Token) (l7 : List Str) (r8 : Str) (r9 : Bool) (x10 : Int) (x11 : Int) (h : F38 x1 x2 x3 x4 x5 l6 l7 = some (r8, r9, x10, x11)) : Good env 38 [.ref 0 0] [.var [.pv (.str x1), .pv (.int .i64 x2), .vec 1 (List.length l6), .vec 2 (List.length l7), .pv (.int .i64 x3), .pv (.int .i64 x4), .pv (.int .i64 x5)], .row 30 4 (List.map Token.pv l6) true, .row 9 1 (List.map PV.str l7) true] [.pv (.str r8), .pv (.bool r9)] [.var [.pv (.str x1), .pv (.int .i64 x2), .vec 1 (List.length l6), .vec 2 (List.length l7), .pv (.int .i64 x3), .pv (.int .i64 x10), .pv (.int .i64 x11)], .row 30 4 (List.map Token.pv l6) true, .row 9 1 (List.map PV.str l7) true] := by
  have pf_20 : O.pf 20 = false := by rw [hpf]; rfl
  have pf_21 : O.pf 21 = true := by rw [hpf]; rfl
  have pf_23 : O.pf 23 = true := by rw [hpf]; rfl
  have pf_34 : O.pf 34 = false := by rw [hpf]; rfl
  have pf_54 : O.pf 54 = true := by rw [hpf]; rfl
  refine Good.start (fn := Tryd.f38) (N := 73) fn_38 rfl rfl (by simp) [] _ rfl rfl ?_
  rw [F38] at h
  refine AW.seq ?_
  refine AW.reg hS [(0, .ref 0 0)] [.var [.pv (.str x1), .pv (.int .i64 x2), .vec 1 (List.length l6), .vec 2 (List.length l7), .pv (.int .i64 x3), .pv (.int .i64 x4), .pv (.int .i64 x5)], .row 30 4 (List.map Token.pv l6) true, .row 9 1 (List.map PV.str l7) true] ?_ ?_
  · simp -implicitDefEqProofs only [RUNS, qindex, Nat.reduceAdd, Nat.reduceLeDiff, Nat.reduceSub, reduceIte, Nat.reduceEqDiff, Nat.reduceLT, reduceCtorEq, Nat.reduceMul, Nat.reduceBEq, Int.reduceEq, if_true, if_false, eq_self, ne_eq, env_bT, Token.pv_eq]
  refine AW.seq ?_
  replace h := Option.bind_eq_some_iff.1 h; obtain ⟨r12, q13, h⟩ := h
  have f14 := c_F20x2 x1 x2 x3 x4 x5 l6 l7 r12 q13
  try dsimp only at f14
  have e15 : ecall O [.var [.pv (.str x1), .pv (.int .i64 x2), .vec 1 (List.length l6), .vec 2 (List.length l7), .pv (.int .i64 x3), .pv (.int .i64 x4), .pv (.int .i64 x5)], .row 30 4 (List.map Token.pv l6) true, .row 9 1 (List.map PV.str l7) true] 20 [.ref 0 0] = some (retAV [.pv (.str r12)], [.var [.pv (.str x1), .pv (.int .i64 x2), .vec 1 (List.length l6), .vec 2 (List.length l7), .pv (.int .i64 x3), .pv (.int .i64 x4), .pv (.int .i64 x5)], .row 30 4 (List.map Token.pv l6) true, .row 9 1 (List.map PV.str l7) true]) := ecall_eq rfl rfl rfl f14 rfl rfl rfl
  refine AW.reg hS [(0, .ref 0 0), (4, .pv (.str r12))] [.var [.pv (.str x1), .pv (.int .i64 x2), .vec 1 (List.length l6), .vec 2 (List.length l7), .pv (.int .i64 x3), .pv (.int .i64 x4), .pv (.int .i64 x5)], .row 30 4 (List.map Token.pv l6) true, .row 9 1 (List.map PV.str l7) true] ?_ ?_
  · simp -implicitDefEqProofs only [RUNS, qindex, Nat.reduceAdd, Nat.reduceLeDiff, Nat.reduceSub, reduceIte, Nat.reduceEqDiff, Nat.reduceLT, reduceCtorEq, Nat.reduceMul, Nat.reduceBEq, Int.reduceEq, if_true, if_false, eq_self, ne_eq, env_bT, T_39, Token.pv_eq, pf_20, e15]
  refine AW.seq ?_
  refine AW.seq ?_
  refine AW.reg hS [(0, .ref 0 0), (4, .pv (.str r12)), (12, .full (List.map PV.str [[38, 38], [124, 124], [36, 35]])), (13, .pv (.int .i64 ([[38, 38], [124, 124], [36, 35]].length : Int))), (14, .pv (.int .i64 0))] [.var [.pv (.str x1), .pv (.int .i64 x2), .vec 1 (List.length l6), .vec 2 (List.length l7), .pv (.int .i64 x3), .pv (.int .i64 x4), .pv (.int .i64 x5)], .row 30 4 (List.map Token.pv l6) true, .row 9 1 (List.map PV.str l7) true] ?_ ?_
  · simp -implicitDefEqProofs only [RUNS, qindex, Nat.reduceAdd, Nat.reduceLeDiff, Nat.reduceSub, reduceIte, Nat.reduceEqDiff, Nat.reduceLT, reduceCtorEq, Nat.reduceMul, Nat.reduceBEq, Int.reduceEq, if_true, if_false, eq_self, ne_eq, env_bT, T_9, T_40, Token.pv_eq, ownT_40]
  refine AW.block ?_
  refine AW.weak (Weak.slots (L := [(0, .ref 0 0), (4, .pv (.str r12)), (12, .full (List.map PV.str [[38, 38], [124, 124], [36, 35]])), (13, .pv (.int .i64 ([[38, 38], [124, 124], [36, 35]].length : Int))), (14, .pv (.int .i64 0))]) ⟨rfl, rfl, rfl, rfl, rfl, trivial⟩) ?_
  refine AW.loopI (α := Nat × Int) (fun (_, i16) => ⟨sl [(0, .ref 0 0), (4, .pv (.str r12)), (12, .full (List.map PV.str [[38, 38], [124, 124], [36, 35]])), (13, .pv (.int .i64 ([[38, 38], [124, 124], [36, 35]].length : Int))), (14, .pv (.int .i64 i16))], 73, [.var [.pv (.str x1), .pv (.int .i64 x2), .vec 1 (List.length l6), .vec 2 (List.length l7), .pv (.int .i64 x3), .pv (.int .i64 x4), .pv (.int .i64 x5)], .row 30 4 (List.map Token.pv l6) true, .row 9 1 (List.map PV.str l7) true]⟩) (fun x => iter (F38_b1 r12 x4 x5 x2 x1 x3 l6 l7) x.1 x.2 = some (r8, r9, x10, x11)) (fun x => x.1) (BIG, 0) h ?_
  clear h
  intro ⟨n72, i16⟩ h
  replace h := iter_some h; obtain ⟨m19, rfl, h⟩ := h
  rw [F38_b1] at h
  try dsimp only at h
  show AW _ _ _ _ ⟨sl [(0, .ref 0 0), (4, .pv (.str r12)), (12, .full (List.map PV.str [[38, 38], [124, 124], [36, 35]])), (13, .pv (.int .i64 ([[38, 38], [124, 124], [36, 35]].length : Int))), (14, .pv (.int .i64 i16))], 73, [.var [.pv (.str x1), .pv (.int .i64 x2), .vec 1 (List.length l6), .vec 2 (List.length l7), .pv (.int .i64 x3), .pv (.int .i64 x4), .pv (.int .i64 x5)], .row 30 4 (List.map Token.pv l6) true, .row 9 1 (List.map PV.str l7) true]⟩
  refine AW.seq ?_
  refine AW.reg hS [(0, .ref 0 0), (4, .pv (.str r12)), (12, .full (List.map PV.str [[38, 38], [124, 124], [36, 35]])), (13, .pv (.int .i64 ([[38, 38], [124, 124], [36, 35]].length : Int))), (14, .pv (.int .i64 i16)), (15, .pv (.bool (decide (i16 < ([[38, 38], [124, 124], [36, 35]].length : Int)))))] [.var [.pv (.str x1), .pv (.int .i64 x2), .vec 1 (List.length l6), .vec 2 (List.length l7), .pv (.int .i64 x3), .pv (.int .i64 x4), .pv (.int .i64 x5)], .row 30 4 (List.map Token.pv l6) true, .row 9 1 (List.map PV.str l7) true] ?_ ?_
  · simp -implicitDefEqProofs only [RUNS, qindex, Nat.reduceAdd, Nat.reduceLeDiff, Nat.reduceSub, reduceIte, Nat.reduceEqDiff, Nat.reduceLT, reduceCtorEq, Nat.reduceMul, Nat.reduceBEq, Int.reduceEq, if_true, if_false, eq_self, ne_eq, env_bT, T_3, Token.pv_eq, eqT_3]
  refine AW.seq ?_
  refine AW.cond (b := decide (i16 < ([[38, 38], [124, 124], [36, 35]].length : Int))) rfl (fun hb20 => ?_) (fun hb20 => ?_)
  · replace h := bif_t hb20 h
    refine AW.skip ?_
    refine AW.seq ?_
    refine AW.block ?_
    refine AW.seq ?_
    replace h := Option.bind_eq_some_iff.1 h; obtain ⟨w21, q22, h⟩ := h
    have f23 := lidx_f q22
    have f23m : (List.map PV.str [[38, 38], [124, 124], [36, 35]])[Int.toNat i16]? = some (PV.str w21) := by rw [List.getElem?_map, f23.2.1]; rfl
    try simp only [List.map_cons, List.map_nil] at f23m
    refine AW.reg hS [(0, .ref 0 0), (4, .pv (.str r12)), (6, .pv (.str w21)), (12, .full (List.map PV.str [[38, 38], [124, 124], [36, 35]])), (13, .pv (.int .i64 ([[38, 38], [124, 124], [36, 35]].length : Int))), (14, .pv (.int .i64 i16))] [.var [.pv (.str x1), .pv (.int .i64 x2), .vec 1 (List.length l6), .vec 2 (List.length l7), .pv (.int .i64 x3), .pv (.int .i64 x4), .pv (.int .i64 x5)], .row 30 4 (List.map Token.pv l6) true, .row 9 1 (List.map PV.str l7) true] ?_ ?_
    · simp -implicitDefEqProofs only [RUNS, qindex, Nat.reduceAdd, Nat.reduceLeDiff, Nat.reduceSub, reduceIte, Nat.reduceEqDiff, Nat.reduceLT, reduceCtorEq, Nat.reduceMul, Nat.reduceBEq, Int.reduceEq, if_true, if_false, eq_self, ne_eq, env_bT, T_9, T_40, Token.pv_eq, f23.1, f23.2.1, f23m]
    refine AW.seq ?_
    replace h := Option.bind_eq_some_iff.1 h; obtain ⟨r24, q25, h⟩ := h
    have f26 := c_F23 r12 w21 r24 q25
    try dsimp only at f26
    refine AW.reg hS [(0, .ref 0 0), (4, .pv (.str r12)), (6, .pv (.str w21)), (12, .full (List.map PV.str [[38, 38], [124, 124], [36, 35]])), (13, .pv (.int .i64 ([[38, 38], [124, 124], [36, 35]].length : Int))), (14, .pv (.int .i64 i16)), (20, .pv (.bool r24))] [.var [.pv (.str x1), .pv (.int .i64 x2), .vec 1 (List.length l6), .vec 2 (List.length l7), .pv (.int .i64 x3), .pv (.int .i64 x4), .pv (.int .i64 x5)], .row 30 4 (List.map Token.pv l6) true, .row 9 1 (List.map PV.str l7) true] ?_ ?_
    · simp -implicitDefEqProofs only [RUNS, qindex, Nat.reduceAdd, Nat.reduceLeDiff, Nat.reduceSub, reduceIte, Nat.reduceEqDiff, Nat.reduceLT, reduceCtorEq, Nat.reduceMul, Nat.reduceBEq, Int.reduceEq, if_true, if_false, eq_self, ne_eq, env_bT, T_9, Token.pv_eq, pf_23, f26]
    refine AW.cond (b := r24) rfl (fun hb27 => ?_) (fun hb27 => ?_)
    · replace h := bif_t hb27 h
      refine AW.seq ?_
      refine AW.reg hS [(2, .pv (.str w21)), (3, .pv (.bool true))] [.var [.pv (.str x1), .pv (.int .i64 x2), .vec 1 (List.length l6), .vec 2 (List.length l7), .pv (.int .i64 x3), .pv (.int .i64 x4), .pv (.int .i64 x5)], .row 30 4 (List.map Token.pv l6) true, .row 9 1 (List.map PV.str l7) true] ?_ ?_
      · simp -implicitDefEqProofs only [RUNS, qindex, Nat.reduceAdd, Nat.reduceLeDiff, Nat.reduceSub, reduceIte, Nat.reduceEqDiff, Nat.reduceLT, reduceCtorEq, Nat.reduceMul, Nat.reduceBEq, Int.reduceEq, if_true, if_false, eq_self, ne_eq, env_bT, Token.pv_eq]
      refine AW.ret ?_
      cases h
      show finish _ _ _ _ _ = _
      first | rfl | (simp [finish, resOf, renArgs, toPV, selObjs, sl])
    · replace h := bif_f hb27 h
      refine AW.skip ?_
      refine AW.reg hS [(0, .ref 0 0), (4, .pv (.str r12)), (12, .full (List.map PV.str [[38, 38], [124, 124], [36, 35]])), (13, .pv (.int .i64 ([[38, 38], [124, 124], [36, 35]].length : Int))), (14, .pv (.int .i64 (IntKind.wrap .i64 (i16 + 1))))] [.var [.pv (.str x1), .pv (.int .i64 x2), .vec 1 (List.length l6), .vec 2 (List.length l7), .pv (.int .i64 x3), .pv (.int .i64 x4), .pv (.int .i64 x5)], .row 30 4 (List.map Token.pv l6) true, .row 9 1 (List.map PV.str l7) true] ?_ ?_
      · simp -implicitDefEqProofs only [RUNS, qindex, Nat.reduceAdd, Nat.reduceLeDiff, Nat.reduceSub, reduceIte, Nat.reduceEqDiff, Nat.reduceLT, reduceCtorEq, Nat.reduceMul, Nat.reduceBEq, Int.reduceEq, if_true, if_false, eq_self, ne_eq, env_bT, T_3, Token.pv_eq, eqT_3]
      exact ⟨(m19, IntKind.wrap .i64 (i16 + 1)), h, (Weak.norm (m := 3) (Nat.le_of_ble_eq_true rfl) ⟨rfl, rfl, rfl, rfl, rfl, trivial⟩ rfl rfl rfl), Nat.lt_succ_self _⟩
  · replace h := bif_f hb20 h
    refine AW.exit ?_
    refine AW.seq ?_
    refine AW.seq ?_
    refine AW.reg hS [(0, .ref 0 0), (4, .pv (.str r12)), (24, .pv (.bool (decide (r12 = []))))] [.var [.pv (.str x1), .pv (.int .i64 x2), .vec 1 (List.length l6), .vec 2 (List.length l7), .pv (.int .i64 x3), .pv (.int .i64 x4), .pv (.int .i64 x5)], .row 30 4 (List.map Token.pv l6) true, .row 9 1 (List.map PV.str l7) true] ?_ ?_
    · simp -implicitDefEqProofs only [RUNS, qindex, Nat.reduceAdd, Nat.reduceLeDiff, Nat.reduceSub, reduceIte, Nat.reduceEqDiff, Nat.reduceLT, reduceCtorEq, Nat.reduceMul, Nat.reduceBEq, Int.reduceEq, if_true, if_false, eq_self, ne_eq, env_bT, T_9, Token.pv_eq, eqT_9]
    refine AW.cond (b := decide (r12 = [])) rfl (fun hb28 => ?_) (fun hb28 => ?_)
    · replace h := bif_t hb28 h
      refine AW.seq ?_
      refine AW.reg hS [(2, .pv (.str [])), (3, .pv (.bool true))] [.var [.pv (.str x1), .pv (.int .i64 x2), .vec 1 (List.length l6), .vec 2 (List.length l7), .pv (.int .i64 x3), .pv (.int .i64 x4), .pv (.int .i64 x5)], .row 30 4 (List.map Token.pv l6) true, .row 9 1 (List.map PV.str l7) true] ?_ ?_
      · simp -implicitDefEqProofs only [RUNS, qindex, Nat.reduceAdd, Nat.reduceLeDiff, Nat.reduceSub, reduceIte, Nat.reduceEqDiff, Nat.reduceLT, reduceCtorEq, Nat.reduceMul, Nat.reduceBEq, Int.reduceEq, if_true, if_false, eq_self, ne_eq, env_bT, Token.pv_eq]
      refine AW.ret ?_
      cases h
      show finish _ _ _ _ _ = _
      first | rfl | (simp [finish, resOf, renArgs, toPV, selObjs, sl])
    · replace h := bif_f hb28 h
      refine AW.skip ?_
      refine AW.seq ?_
      refine AW.seq ?_
      replace h := Option.bind_eq_some_iff.1 h; obtain ⟨c29, q30, h⟩ := h
      have f31 := sidx_f q30
      replace h := Option.bind_eq_some_iff.1 h; obtain ⟨n32, q33, h⟩ := h
      have f34 := c_L_IndexByte [59, 38, 40, 41, 123, 125, 61, 94, 96, 36, 33, 64] c29 n32 q33
      try dsimp only at f34
      try simp only [List.map_cons, List.map_nil, Token.pv_eq] at f34
      refine AW.reg hS [(0, .ref 0 0), (4, .pv (.str r12)), (28, .pv (.bool (decide (0 ≤ n32))))] [.var [.pv (.str x1), .pv (.int .i64 x2), .vec 1 (List.length l6), .vec 2 (List.length l7), .pv (.int .i64 x3), .pv (.int .i64 x4), .pv (.int .i64 x5)], .row 30 4 (List.map Token.pv l6) true, .row 9 1 (List.map PV.str l7) true] ?_ ?_
      · simp -implicitDefEqProofs only [RUNS, qindex, Nat.reduceAdd, Nat.reduceLeDiff, Nat.reduceSub, reduceIte, Nat.reduceEqDiff, Nat.reduceLT, reduceCtorEq, Nat.reduceMul, Nat.reduceBEq, Int.reduceEq, if_true, if_false, eq_self, ne_eq, env_bT, T_3, T_5, T_9, Token.pv_eq, f31.1, f31.2.1, f31.2.2, pf_21, f34, eqT_3]
      refine AW.cond (b := decide (0 ≤ n32)) rfl (fun hb35 => ?_) (fun hb35 => ?_)
      · replace h := bif_t hb35 h
        refine AW.seq ?_
        replace h := Option.bind_eq_some_iff.1 h; obtain ⟨t36, q37, h⟩ := h
        have f38 := sslice_f q37
        have f38e := f38.2.2.2.2
        try simp only [Int.toNat_natCast, Int.toNat_zero, List.drop_zero] at f38e
        have f38l := f38.2.2.1
        try simp only [Int.toNat_natCast, Int.toNat_zero] at f38l
        refine AW.reg hS [(2, .pv (.str t36)), (3, .pv (.bool true))] [.var [.pv (.str x1), .pv (.int .i64 x2), .vec 1 (List.length l6), .vec 2 (List.length l7), .pv (.int .i64 x3), .pv (.int .i64 x4), .pv (.int .i64 x5)], .row 30 4 (List.map Token.pv l6) true, .row 9 1 (List.map PV.str l7) true] ?_ ?_
        · simp -implicitDefEqProofs only [RUNS, qindex, Nat.reduceAdd, Nat.reduceLeDiff, Nat.reduceSub, reduceIte, Nat.reduceEqDiff, Nat.reduceLT, reduceCtorEq, Nat.reduceMul, Nat.reduceBEq, Int.reduceEq, if_true, if_false, eq_self, ne_eq, env_bT, T_9, Token.pv_eq, f38.1, f38.2.1, f38l, f38.2.2.2.1, f38e, Int.toNat_natCast, Int.toNat_zero]
        refine AW.ret ?_
        cases h
        show finish _ _ _ _ _ = _
        first | rfl | (simp [finish, resOf, renArgs, toPV, selObjs, sl])
      · replace h := bif_f hb35 h
        refine AW.skip ?_
        refine AW.seq ?_
        refine AW.seq ?_
        refine AW.reg hS [(0, .ref 0 0), (4, .pv (.str r12)), (31, .full (List.map PV.str [[62, 62], [62], [60], [124]])), (32, .pv (.int .i64 ([[62, 62], [62], [60], [124]].length : Int))), (33, .pv (.int .i64 0))] [.var [.pv (.str x1), .pv (.int .i64 x2), .vec 1 (List.length l6), .vec 2 (List.length l7), .pv (.int .i64 x3), .pv (.int .i64 x4), .pv (.int .i64 x5)], .row 30 4 (List.map Token.pv l6) true, .row 9 1 (List.map PV.str l7) true] ?_ ?_
        · simp -implicitDefEqProofs only [RUNS, qindex, Nat.reduceAdd, Nat.reduceLeDiff, Nat.reduceSub, reduceIte, Nat.reduceEqDiff, Nat.reduceLT, reduceCtorEq, Nat.reduceMul, Nat.reduceBEq, Int.reduceEq, if_true, if_false, eq_self, ne_eq, env_bT, T_9, T_40, Token.pv_eq, ownT_40]
        refine AW.block ?_
        refine AW.weak (Weak.slots (L := [(0, .ref 0 0), (4, .pv (.str r12)), (31, .full (List.map PV.str [[62, 62], [62], [60], [124]])), (32, .pv (.int .i64 ([[62, 62], [62], [60], [124]].length : Int))), (33, .pv (.int .i64 0))]) ⟨rfl, rfl, rfl, rfl, rfl, trivial⟩) ?_
        refine AW.loopI (α := Nat × Int) (fun (_, i39) => ⟨sl [(0, .ref 0 0), (4, .pv (.str r12)), (31, .full (List.map PV.str [[62, 62], [62], [60], [124]])), (32, .pv (.int .i64 ([[62, 62], [62], [60], [124]].length : Int))), (33, .pv (.int .i64 i39))], 73, [.var [.pv (.str x1), .pv (.int .i64 x2), .vec 1 (List.length l6), .vec 2 (List.length l7), .pv (.int .i64 x3), .pv (.int .i64 x4), .pv (.int .i64 x5)], .row 30 4 (List.map Token.pv l6) true, .row 9 1 (List.map PV.str l7) true]⟩) (fun x => iter (F38_b2 r12 x4 x5 x2 x1 x3 l6 l7) x.1 x.2 = some (r8, r9, x10, x11)) (fun x => x.1) (BIG, 0) h ?_
        clear h
        intro ⟨n71, i39⟩ h
        replace h := iter_some h; obtain ⟨m42, rfl, h⟩ := h
        rw [F38_b2] at h
        try dsimp only at h
        show AW _ _ _ _ ⟨sl [(0, .ref 0 0), (4, .pv (.str r12)), (31, .full (List.map PV.str [[62, 62], [62], [60], [124]])), (32, .pv (.int .i64 ([[62, 62], [62], [60], [124]].length : Int))), (33, .pv (.int .i64 i39))], 73, [.var [.pv (.str x1), .pv (.int .i64 x2), .vec 1 (List.length l6), .vec 2 (List.length l7), .pv (.int .i64 x3), .pv (.int .i64 x4), .pv (.int .i64 x5)], .row 30 4 (List.map Token.pv l6) true, .row 9 1 (List.map PV.str l7) true]⟩
        refine AW.seq ?_
        refine AW.reg hS [(0, .ref 0 0), (4, .pv (.str r12)), (31, .full (List.map PV.str [[62, 62], [62], [60], [124]])), (32, .pv (.int .i64 ([[62, 62], [62], [60], [124]].length : Int))), (33, .pv (.int .i64 i39)), (34, .pv (.bool (decide (i39 < ([[62, 62], [62], [60], [124]].length : Int)))))] [.var [.pv (.str x1), .pv (.int .i64 x2), .vec 1 (List.length l6), .vec 2 (List.length l7), .pv (.int .i64 x3), .pv (.int .i64 x4), .pv (.int .i64 x5)], .row 30 4 (List.map Token.pv l6) true, .row 9 1 (List.map PV.str l7) true] ?_ ?_
        · simp -implicitDefEqProofs only [RUNS, qindex, Nat.reduceAdd, Nat.reduceLeDiff, Nat.reduceSub, reduceIte, Nat.reduceEqDiff, Nat.reduceLT, reduceCtorEq, Nat.reduceMul, Nat.reduceBEq, Int.reduceEq, if_true, if_false, eq_self, ne_eq, env_bT, T_3, Token.pv_eq, eqT_3]
        refine AW.seq ?_
        refine AW.cond (b := decide (i39 < ([[62, 62], [62], [60], [124]].length : Int))) rfl (fun hb43 => ?_) (fun hb43 => ?_)
        · replace h := bif_t hb43 h
          refine AW.skip ?_
          refine AW.seq ?_
          refine AW.block ?_
          refine AW.seq ?_
          replace h := Option.bind_eq_some_iff.1 h; obtain ⟨w44, q45, h⟩ := h
          have f46 := lidx_f q45
          have f46m : (List.map PV.str [[62, 62], [62], [60], [124]])[Int.toNat i39]? = some (PV.str w44) := by rw [List.getElem?_map, f46.2.1]; rfl
          try simp only [List.map_cons, List.map_nil] at f46m
          refine AW.reg hS [(0, .ref 0 0), (4, .pv (.str r12)), (8, .pv (.str w44)), (31, .full (List.map PV.str [[62, 62], [62], [60], [124]])), (32, .pv (.int .i64 ([[62, 62], [62], [60], [124]].length : Int))), (33, .pv (.int .i64 i39))] [.var [.pv (.str x1), .pv (.int .i64 x2), .vec 1 (List.length l6), .vec 2 (List.length l7), .pv (.int .i64 x3), .pv (.int .i64 x4), .pv (.int .i64 x5)], .row 30 4 (List.map Token.pv l6) true, .row 9 1 (List.map PV.str l7) true] ?_ ?_
          · simp -implicitDefEqProofs only [RUNS, qindex, Nat.reduceAdd, Nat.reduceLeDiff, Nat.reduceSub, reduceIte, Nat.reduceEqDiff, Nat.reduceLT, reduceCtorEq, Nat.reduceMul, Nat.reduceBEq, Int.reduceEq, if_true, if_false, eq_self, ne_eq, env_bT, T_9, T_40, Token.pv_eq, f46.1, f46.2.1, f46m]
          refine AW.seq ?_
          refine AW.seq ?_
          replace h := Option.bind_eq_some_iff.1 h; obtain ⟨r47, q48, h⟩ := h
          have f49 := c_F23 r12 w44 r47 q48
          try dsimp only at f49
          refine AW.reg hS [(0, .ref 0 0), (4, .pv (.str r12)), (8, .pv (.str w44)), (31, .full (List.map PV.str [[62, 62], [62], [60], [124]])), (32, .pv (.int .i64 ([[62, 62], [62], [60], [124]].length : Int))), (33, .pv (.int .i64 i39)), (40, .pv (.bool (!r47)))] [.var [.pv (.str x1), .pv (.int .i64 x2), .vec 1 (List.length l6), .vec 2 (List.length l7), .pv (.int .i64 x3), .pv (.int .i64 x4), .pv (.int .i64 x5)], .row 30 4 (List.map Token.pv l6) true, .row 9 1 (List.map PV.str l7) true] ?_ ?_
          · simp -implicitDefEqProofs only [RUNS, qindex, Nat.reduceAdd, Nat.reduceLeDiff, Nat.reduceSub, reduceIte, Nat.reduceEqDiff, Nat.reduceLT, reduceCtorEq, Nat.reduceMul, Nat.reduceBEq, Int.reduceEq, if_true, if_false, eq_self, ne_eq, env_bT, T_9, Token.pv_eq, pf_23, f49]
          refine AW.cond (b := !r47) rfl (fun hb50 => ?_) (fun hb50 => ?_)
          · replace h := bif_t hb50 h
            refine AW.exit ?_
            refine AW.reg hS [(0, .ref 0 0), (4, .pv (.str r12)), (31, .full (List.map PV.str [[62, 62], [62], [60], [124]])), (32, .pv (.int .i64 ([[62, 62], [62], [60], [124]].length : Int))), (33, .pv (.int .i64 (IntKind.wrap .i64 (i39 + 1))))] [.var [.pv (.str x1), .pv (.int .i64 x2), .vec 1 (List.length l6), .vec 2 (List.length l7), .pv (.int .i64 x3), .pv (.int .i64 x4), .pv (.int .i64 x5)], .row 30 4 (List.map Token.pv l6) true, .row 9 1 (List.map PV.str l7) true] ?_ ?_
            · simp -implicitDefEqProofs only [RUNS, qindex, Nat.reduceAdd, Nat.reduceLeDiff, Nat.reduceSub, reduceIte, Nat.reduceEqDiff, Nat.reduceLT, reduceCtorEq, Nat.reduceMul, Nat.reduceBEq, Int.reduceEq, if_true, if_false, eq_self, ne_eq, env_bT, T_3, Token.pv_eq, eqT_3]
            exact ⟨(m42, IntKind.wrap .i64 (i39 + 1)), h, (Weak.norm (m := 3) (Nat.le_of_ble_eq_true rfl) ⟨rfl, rfl, rfl, rfl, rfl, trivial⟩ rfl rfl rfl), Nat.lt_succ_self _⟩
          · replace h := bif_f hb50 h
            refine AW.skip ?_
            refine AW.seq ?_
            refine AW.seq ?_
            replace h := Option.bind_eq_some_iff.1 h; obtain ⟨t51, q52, h⟩ := h
            have f53 := sslice_f q52
            have f53e := f53.2.2.2.2
            try simp only [Int.toNat_natCast, Int.toNat_zero, List.drop_zero] at f53e
            have f53l := f53.2.2.1
            try simp only [Int.toNat_natCast, Int.toNat_zero] at f53l
            replace h := Option.bind_eq_some_iff.1 h; obtain ⟨r54, q55, h⟩ := h
            have f56 := c_F23 t51 [91] r54 q55
            try dsimp only at f56
            try simp only [List.map_cons, List.map_nil, Token.pv_eq] at f56
            refine AW.reg hS [(0, .ref 0 0), (4, .pv (.str r12)), (8, .pv (.str w44)), (46, .pv (.bool (!r54)))] [.var [.pv (.str x1), .pv (.int .i64 x2), .vec 1 (List.length l6), .vec 2 (List.length l7), .pv (.int .i64 x3), .pv (.int .i64 x4), .pv (.int .i64 x5)], .row 30 4 (List.map Token.pv l6) true, .row 9 1 (List.map PV.str l7) true] ?_ ?_
            · simp -implicitDefEqProofs only [RUNS, qindex, Nat.reduceAdd, Nat.reduceLeDiff, Nat.reduceSub, reduceIte, Nat.reduceEqDiff, Nat.reduceLT, reduceCtorEq, Nat.reduceMul, Nat.reduceBEq, Int.reduceEq, if_true, if_false, eq_self, ne_eq, env_bT, T_9, Token.pv_eq, f53.1, f53.2.1, f53l, f53.2.2.2.1, f53e, Int.toNat_natCast, Int.toNat_zero, pf_23, f56]
            refine AW.cond (b := !r54) rfl (fun hb57 => ?_) (fun hb57 => ?_)
            · replace h := bif_t hb57 h
              refine AW.seq ?_
              refine AW.reg hS [(2, .pv (.str w44)), (3, .pv (.bool true))] [.var [.pv (.str x1), .pv (.int .i64 x2), .vec 1 (List.length l6), .vec 2 (List.length l7), .pv (.int .i64 x3), .pv (.int .i64 x4), .pv (.int .i64 x5)], .row 30 4 (List.map Token.pv l6) true, .row 9 1 (List.map PV.str l7) true] ?_ ?_
              · simp -implicitDefEqProofs only [RUNS, qindex, Nat.reduceAdd, Nat.reduceLeDiff, Nat.reduceSub, reduceIte, Nat.reduceEqDiff, Nat.reduceLT, reduceCtorEq, Nat.reduceMul, Nat.reduceBEq, Int.reduceEq, if_true, if_false, eq_self, ne_eq, env_bT, Token.pv_eq]
              refine AW.ret ?_
              cases h
              show finish _ _ _ _ _ = _
              first | rfl | (simp [finish, resOf, renArgs, toPV, selObjs, sl])
            · replace h := bif_f hb57 h
              refine AW.skip ?_
              refine AW.seq ?_
              have f53e := f53.2.2.2.2
              try simp only [Int.toNat_natCast, Int.toNat_zero, List.drop_zero] at f53e
              have f53l := f53.2.2.1
              try simp only [Int.toNat_natCast, Int.toNat_zero] at f53l
              replace h := Option.bind_eq_some_iff.1 h; obtain ⟨r58, q59, h⟩ := h
              have f60 := c_F54 t51 (!decide (w44 = [124])) r58 q59
              try dsimp only at f60
              refine AW.reg hS [(0, .ref 0 0), (4, .pv (.str r12)), (8, .pv (.str w44)), (9, .pv (.int .i64 r58))] [.var [.pv (.str x1), .pv (.int .i64 x2), .vec 1 (List.length l6), .vec 2 (List.length l7), .pv (.int .i64 x3), .pv (.int .i64 x4), .pv (.int .i64 x5)], .row 30 4 (List.map Token.pv l6) true, .row 9 1 (List.map PV.str l7) true] ?_ ?_
              · simp -implicitDefEqProofs only [RUNS, qindex, Nat.reduceAdd, Nat.reduceLeDiff, Nat.reduceSub, reduceIte, Nat.reduceEqDiff, Nat.reduceLT, reduceCtorEq, Nat.reduceMul, Nat.reduceBEq, Int.reduceEq, if_true, if_false, eq_self, ne_eq, env_bT, T_4, T_9, Token.pv_eq, f53.1, f53.2.1, f53l, f53.2.2.2.1, f53e, Int.toNat_natCast, Int.toNat_zero, eqT_9, pf_54, f60]
              refine AW.seq ?_
              refine AW.seq ?_
              refine AW.reg hS [(0, .ref 0 0), (4, .pv (.str r12)), (8, .pv (.str w44)), (9, .pv (.int .i64 r58)), (56, .pv (.bool (decide (r58 = 0))))] [.var [.pv (.str x1), .pv (.int .i64 x2), .vec 1 (List.length l6), .vec 2 (List.length l7), .pv (.int .i64 x3), .pv (.int .i64 x4), .pv (.int .i64 x5)], .row 30 4 (List.map Token.pv l6) true, .row 9 1 (List.map PV.str l7) true] ?_ ?_
              · simp -implicitDefEqProofs only [RUNS, qindex, Nat.reduceAdd, Nat.reduceLeDiff, Nat.reduceSub, reduceIte, Nat.reduceEqDiff, Nat.reduceLT, reduceCtorEq, Nat.reduceMul, Nat.reduceBEq, Int.reduceEq, if_true, if_false, eq_self, ne_eq, env_bT, T_3, Token.pv_eq, eqT_3]
              refine AW.cond (b := decide (r58 = 0)) rfl (fun hb61 => ?_) (fun hb61 => ?_)
              · replace h := bif_t hb61 h
                refine AW.seq ?_
                replace h := Option.bind_eq_some_iff.1 h; obtain ⟨⟨r62, x63, x64⟩, q65, h⟩ := h
                dsimp only at h
                have f66 := c_F34x2 (IntKind.wrap .i64 (x2 + (w44.length : Int))) 47 x1 x2 x3 x4 x5 l6 l7 r62 x63 x64 q65
                try dsimp only at f66
                have e67 : ecall O [.var [.pv (.str x1), .pv (.int .i64 x2), .vec 1 (List.length l6), .vec 2 (List.length l7), .pv (.int .i64 x3), .pv (.int .i64 x4), .pv (.int .i64 x5)], .row 30 4 (List.map Token.pv l6) true, .row 9 1 (List.map PV.str l7) true] 34 [.ref 0 0, .pv (.int .i64 (IntKind.wrap .i64 (x2 + (w44.length : Int)))), .pv (.int .i64 47)] = some (retAV [.pv (.bool r62)], [.var [.pv (.str x1), .pv (.int .i64 x2), .vec 1 (List.length l6), .vec 2 (List.length l7), .pv (.int .i64 x3), .pv (.int .i64 x63), .pv (.int .i64 x64)], .row 30 4 (List.map Token.pv l6) true, .row 9 1 (List.map PV.str l7) true]) := ecall_eq rfl rfl rfl f66 rfl rfl rfl
                refine AW.reg hS [(2, .pv (.str [])), (3, .pv (.bool r62))] [.var [.pv (.str x1), .pv (.int .i64 x2), .vec 1 (List.length l6), .vec 2 (List.length l7), .pv (.int .i64 x3), .pv (.int .i64 x63), .pv (.int .i64 x64)], .row 30 4 (List.map Token.pv l6) true, .row 9 1 (List.map PV.str l7) true] ?_ ?_
                · simp -implicitDefEqProofs only [RUNS, qindex, Nat.reduceAdd, Nat.reduceLeDiff, Nat.reduceSub, reduceIte, Nat.reduceEqDiff, Nat.reduceLT, reduceCtorEq, Nat.reduceMul, Nat.reduceBEq, Int.reduceEq, if_true, if_false, eq_self, ne_eq, env_bT, T_3, T_9, T_25, T_39, T_42, Token.pv_eq, eqT_3, pf_34, e67]
                refine AW.ret ?_
                cases h
                show finish _ _ _ _ _ = _
                first | rfl | (simp [finish, resOf, renArgs, toPV, selObjs, sl])
              · replace h := bif_f hb61 h
                refine AW.skip ?_
                refine AW.seq ?_
                replace h := Option.bind_eq_some_iff.1 h; obtain ⟨t68, q69, h⟩ := h
                have f70 := sslice_f q69
                have f70e := f70.2.2.2.2
                try simp only [Int.toNat_natCast, Int.toNat_zero, List.drop_zero] at f70e
                have f70l := f70.2.2.1
                try simp only [Int.toNat_natCast, Int.toNat_zero] at f70l
                refine AW.reg hS [(2, .pv (.str t68)), (3, .pv (.bool true))] [.var [.pv (.str x1), .pv (.int .i64 x2), .vec 1 (List.length l6), .vec 2 (List.length l7), .pv (.int .i64 x3), .pv (.int .i64 x4), .pv (.int .i64 x5)], .row 30 4 (List.map Token.pv l6) true, .row 9 1 (List.map PV.str l7) true] ?_ ?_
                · simp -implicitDefEqProofs only [RUNS, qindex, Nat.reduceAdd, Nat.reduceLeDiff, Nat.reduceSub, reduceIte, Nat.reduceEqDiff, Nat.reduceLT, reduceCtorEq, Nat.reduceMul, Nat.reduceBEq, Int.reduceEq, if_true, if_false, eq_self, ne_eq, env_bT, T_3, T_9, Token.pv_eq, eqT_3, f70.1, f70.2.1, f70l, f70.2.2.2.1, f70e, Int.toNat_natCast, Int.toNat_zero]
                refine AW.ret ?_
                cases h
                show finish _ _ _ _ _ = _
                first | rfl | (simp [finish, resOf, renArgs, toPV, selObjs, sl])
        · replace h := bif_f hb43 h
          refine AW.exit ?_
          refine AW.seq ?_
          refine AW.reg hS [(2, .pv (.str [])), (3, .pv (.bool true))] [.var [.pv (.str x1), .pv (.int .i64 x2), .vec 1 (List.length l6), .vec 2 (List.length l7), .pv (.int .i64 x3), .pv (.int .i64 x4), .pv (.int .i64 x5)], .row 30 4 (List.map Token.pv l6) true, .row 9 1 (List.map PV.str l7) true] ?_ ?_
          · simp -implicitDefEqProofs only [RUNS, qindex, Nat.reduceAdd, Nat.reduceLeDiff, Nat.reduceSub, reduceIte, Nat.reduceEqDiff, Nat.reduceLT, reduceCtorEq, Nat.reduceMul, Nat.reduceBEq, Int.reduceEq, if_true, if_false, eq_self, ne_eq, env_bT, Token.pv_eq]
          refine AW.ret ?_
          cases h
          show finish _ _ _ _ _ = _
          first | rfl | (simp [finish, resOf, renArgs, toPV, selObjs, sl])

set_option maxHeartbeats 4000000 in
theorem g_F39 {O : Orc} (hS : Sound env O) (hpf : O.pf = pfn) (c_L_IndexByte : C_L_IndexByte O) (c_F33x1 : C_F33x1 O) (t1 : Token) (touches2 : Bool) (x3 : Str) (x4 : Int) (x5 : Int) (x6 : Int) (x7 : Int) (l8 : List Token) (l9 : List Str) (r10 : Bool) (x11 : Int) (x12 : Int) (o13 : List Token) (h : F39 t1 touches2 x3 x4 x5 x6 x7 l8 l9 = some (r10, x11, x12, o13)) : Good env 39 [.ref 0 0, .pv (.agg [.int .i64 t1.kind_, .int .i64 t1.at_, .str t1.text_, .str t1.quoted_]), .pv (.bool touches2)] [.var [.pv (.str x3), .pv (.int .i64 x4), .vec 1 (List.length l8), .vec 2 (List.length l9), .pv (.int .i64 x5), .pv (.int .i64 x6), .pv (.int .i64 x7)], .row 30 4 (List.map Token.pv l8) true, .row 9 1 (List.map PV.str l9) true] [.pv (.bool r10)] [.var [.pv (.str x3), .pv (.int .i64 x4), .vec 1 (List.length o13), .vec 2 (List.length l9), .pv (.int .i64 x5), .pv (.int .i64 x11), .pv (.int .i64 x12)], .row 30 4 (List.map Token.pv o13) true, .row 9 1 (List.map PV.str l9) true] := by
  have pf_21 : O.pf 21 = true := by rw [hpf]; rfl
  have pf_33 : O.pf 33 = false := by rw [hpf]; rfl
  refine Good.start (fn := Tryd.f39) (N := 43) fn_39 rfl rfl (by simp) [] _ rfl rfl ?_
  rw [F39] at h
  refine AW.seq ?_
  refine AW.reg hS [(0, .ref 0 0), (2, .pv (.bool touches2)), (4, .ref 3 0)] [.var [.pv (.str x3), .pv (.int .i64 x4), .vec 1 (List.length l8), .vec 2 (List.length l9), .pv (.int .i64 x5), .pv (.int .i64 x6), .pv (.int .i64 x7)], .row 30 4 (List.map Token.pv l8) true, .row 9 1 (List.map PV.str l9) true, .var [.pv (.int .i64 t1.kind_), .pv (.int .i64 t1.at_), .pv (.str t1.text_), .pv (.str t1.quoted_)]] ?_ ?_
  · simp -implicitDefEqProofs only [RUNS, qindex, Nat.reduceAdd, Nat.reduceLeDiff, Nat.reduceSub, reduceIte, Nat.reduceEqDiff, Nat.reduceLT, reduceCtorEq, Nat.reduceMul, Nat.reduceBEq, Int.reduceEq, if_true, if_false, eq_self, ne_eq, env_bT, T_30, Token.pv_eq]
  refine AW.seq ?_
  replace h := Option.bind_eq_some_iff.1 h; obtain ⟨c14, q15, h⟩ := h
  have f16 := sidx_g (guardO_t q15)
  replace h := Option.bind_eq_some_iff.1 h; obtain ⟨n17, q18, h⟩ := h
  have f19 := fun hg => c_L_IndexByte [36, 96] c14 n17 (guardO_t q18 hg)
  try dsimp only at f19
  try simp only [List.map_cons, List.map_nil, Token.pv_eq] at f19
  refine AW.reg hS [(0, .ref 0 0), (2, .pv (.bool touches2)), (4, .ref 3 0), (7, .pv (.bool (decide (t1.kind_ = 1) || ((decide (t1.kind_ = 2) && !decide (t1.text_ = [])) && decide (0 ≤ n17)))))] [.var [.pv (.str x3), .pv (.int .i64 x4), .vec 1 (List.length l8), .vec 2 (List.length l9), .pv (.int .i64 x5), .pv (.int .i64 x6), .pv (.int .i64 x7)], .row 30 4 (List.map Token.pv l8) true, .row 9 1 (List.map PV.str l9) true, .var [.pv (.int .i64 t1.kind_), .pv (.int .i64 t1.at_), .pv (.str t1.text_), .pv (.str t1.quoted_)]] ?_ ?_
  · clear h
    (simp -implicitDefEqProofs only [RUNS, qindex, Nat.reduceAdd, Nat.reduceLeDiff, Nat.reduceSub, reduceIte, Nat.reduceEqDiff, Nat.reduceLT, reduceCtorEq, Nat.reduceMul, Nat.reduceBEq, Int.reduceEq, if_true, if_false, eq_self, ne_eq, env_bT, T_3, T_5, T_9, T_30, Token.pv_eq, eqT_3, eqT_9, f16.1, f16.2.1, f16.2.2, pf_21, f19]); repeat' (split <;> rename_i hb <;> (try simp only [HBS, ge_iff_le, gt_iff_lt] at hb) <;> simp -implicitDefEqProofs only [RUNS, qindex, Nat.reduceAdd, Nat.reduceLeDiff, Nat.reduceSub, reduceIte, Nat.reduceEqDiff, Nat.reduceLT, reduceCtorEq, Nat.reduceMul, Nat.reduceBEq, Int.reduceEq, if_true, if_false, eq_self, ne_eq, env_bT, T_3, T_5, T_9, T_30, Token.pv_eq, eqT_3, eqT_9, f16.1, f16.2.1, f16.2.2, pf_21, f19, *, decide_true, decide_false, Decidable.not_not, not_false_eq_true, not_true_eq_false])
    all_goals (first | (simp only [BOOLS]; done) | (simp [*]; done) | ((try simp only [CLOS, beq_iff_eq, bne_iff_ne, ne_eq] at *) <;> omega) | (simp_all; done) | (simp_all <;> omega))
  refine AW.seq ?_
  refine AW.seq ?_
  refine AW.cases ((touches2 && (decide (t1.kind_ = 1) || ((decide (t1.kind_ = 2) && !decide (t1.text_ = [])) && decide (0 ≤ n17))))) (fun hsp3 => ?_) (fun hsp3 => ?_)
  · replace h := bif_t hsp3 h
    replace h := Option.bind_eq_some_iff.1 h; obtain ⟨⟨r20, x21, x22, o23⟩, q24, h⟩ := h
    dsimp only at h
    have f25 := c_F33x1 (Token.mk 2 t1.at_ [94] []) x3 x4 x5 x6 x7 l8 l9 r20 x21 x22 o23 q24
    try dsimp only at f25
    have e26 : ecall O [.var [.pv (.str x3), .pv (.int .i64 x4), .vec 1 (List.length l8), .vec 2 (List.length l9), .pv (.int .i64 x5), .pv (.int .i64 x6), .pv (.int .i64 x7)], .row 30 4 (List.map Token.pv l8) true, .row 9 1 (List.map PV.str l9) true, .var [.pv (.int .i64 t1.kind_), .pv (.int .i64 t1.at_), .pv (.str t1.text_), .pv (.str t1.quoted_)]] 33 [.ref 0 0, .pv (.agg [.int .i64 2, .int .i64 t1.at_, .str [94], .str []])] = some (retAV [.pv (.bool r20)], [.var [.pv (.str x3), .pv (.int .i64 x4), .vec 1 (List.length o23), .vec 2 (List.length l9), .pv (.int .i64 x5), .pv (.int .i64 x21), .pv (.int .i64 x22)], .row 30 4 (List.map Token.pv o23) true, .row 9 1 (List.map PV.str l9) true, .var [.pv (.int .i64 t1.kind_), .pv (.int .i64 t1.at_), .pv (.str t1.text_), .pv (.str t1.quoted_)]]) := ecall_eq rfl rfl rfl f25 rfl rfl rfl
    refine AW.reg hS [(0, .ref 0 0), (4, .ref 3 0), (39, .pv (.bool (!r20)))] [.var [.pv (.str x3), .pv (.int .i64 x4), .vec 1 (List.length o23), .vec 2 (List.length l9), .pv (.int .i64 x5), .pv (.int .i64 x21), .pv (.int .i64 x22)], .row 30 4 (List.map Token.pv o23) true, .row 9 1 (List.map PV.str l9) true, .var [.pv (.int .i64 t1.kind_), .pv (.int .i64 t1.at_), .pv (.str t1.text_), .pv (.str t1.quoted_)]] ?_ ?_
    · clear h
      (simp -implicitDefEqProofs only [RUNS, qindex, Nat.reduceAdd, Nat.reduceLeDiff, Nat.reduceSub, reduceIte, Nat.reduceEqDiff, Nat.reduceLT, reduceCtorEq, Nat.reduceMul, Nat.reduceBEq, Int.reduceEq, if_true, if_false, eq_self, ne_eq, env_bT, T_3, T_30, T_39, Token.pv_eq, hsp3, ownT_30, pf_33, e26]); repeat' (split <;> rename_i hb <;> (try simp only [HBS, ge_iff_le, gt_iff_lt] at hb) <;> simp -implicitDefEqProofs only [RUNS, qindex, Nat.reduceAdd, Nat.reduceLeDiff, Nat.reduceSub, reduceIte, Nat.reduceEqDiff, Nat.reduceLT, reduceCtorEq, Nat.reduceMul, Nat.reduceBEq, Int.reduceEq, if_true, if_false, eq_self, ne_eq, env_bT, T_3, T_30, T_39, Token.pv_eq, hsp3, ownT_30, pf_33, e26, *, decide_true, decide_false, Decidable.not_not, not_false_eq_true, not_true_eq_false])
      all_goals (first | (simp only [BOOLS]; done) | (simp [*]; done) | ((try simp only [CLOS, beq_iff_eq, bne_iff_ne, ne_eq] at *) <;> omega) | (simp_all; done) | (simp_all <;> omega))
    refine AW.cond (b := !r20) rfl (fun hb27 => ?_) (fun hb27 => ?_)
    · replace h := bif_t hb27 h
      refine AW.seq ?_
      refine AW.reg hS [(6, .pv (.bool false))] [.var [.pv (.str x3), .pv (.int .i64 x4), .vec 1 (List.length o23), .vec 2 (List.length l9), .pv (.int .i64 x5), .pv (.int .i64 x21), .pv (.int .i64 x22)], .row 30 4 (List.map Token.pv o23) true, .row 9 1 (List.map PV.str l9) true, .var [.pv (.int .i64 t1.kind_), .pv (.int .i64 t1.at_), .pv (.str t1.text_), .pv (.str t1.quoted_)]] ?_ ?_
      · simp -implicitDefEqProofs only [RUNS, qindex, Nat.reduceAdd, Nat.reduceLeDiff, Nat.reduceSub, reduceIte, Nat.reduceEqDiff, Nat.reduceLT, reduceCtorEq, Nat.reduceMul, Nat.reduceBEq, Int.reduceEq, if_true, if_false, eq_self, ne_eq, env_bT, Token.pv_eq]
      refine AW.ret ?_
      cases h
      show finish _ _ _ _ _ = _
      first | rfl | (simp [finish, resOf, renArgs, toPV, selObjs, sl])
    · replace h := bif_f hb27 h
      refine AW.skip ?_
      refine AW.seq ?_
      replace h := Option.bind_eq_some_iff.1 h; obtain ⟨⟨r28, x29, x30, o31⟩, q32, h⟩ := h
      dsimp only at h
      have f33 := c_F33x1 t1 x3 x4 x5 x21 x22 o23 l9 r28 x29 x30 o31 q32
      try dsimp only at f33
      have e34 : ecall O [.var [.pv (.str x3), .pv (.int .i64 x4), .vec 1 (List.length o23), .vec 2 (List.length l9), .pv (.int .i64 x5), .pv (.int .i64 x21), .pv (.int .i64 x22)], .row 30 4 (List.map Token.pv o23) true, .row 9 1 (List.map PV.str l9) true, .var [.pv (.int .i64 t1.kind_), .pv (.int .i64 t1.at_), .pv (.str t1.text_), .pv (.str t1.quoted_)]] 33 [.ref 0 0, .pv (.agg [.int .i64 t1.kind_, .int .i64 t1.at_, .str t1.text_, .str t1.quoted_])] = some (retAV [.pv (.bool r28)], [.var [.pv (.str x3), .pv (.int .i64 x4), .vec 1 (List.length o31), .vec 2 (List.length l9), .pv (.int .i64 x5), .pv (.int .i64 x29), .pv (.int .i64 x30)], .row 30 4 (List.map Token.pv o31) true, .row 9 1 (List.map PV.str l9) true, .var [.pv (.int .i64 t1.kind_), .pv (.int .i64 t1.at_), .pv (.str t1.text_), .pv (.str t1.quoted_)]]) := ecall_eq rfl rfl rfl f33 rfl rfl rfl
      refine AW.reg hS [(6, .pv (.bool r28))] [.var [.pv (.str x3), .pv (.int .i64 x4), .vec 1 (List.length o31), .vec 2 (List.length l9), .pv (.int .i64 x5), .pv (.int .i64 x29), .pv (.int .i64 x30)], .row 30 4 (List.map Token.pv o31) true, .row 9 1 (List.map PV.str l9) true, .var [.pv (.int .i64 t1.kind_), .pv (.int .i64 t1.at_), .pv (.str t1.text_), .pv (.str t1.quoted_)]] ?_ ?_
      · simp -implicitDefEqProofs only [RUNS, qindex, Nat.reduceAdd, Nat.reduceLeDiff, Nat.reduceSub, reduceIte, Nat.reduceEqDiff, Nat.reduceLT, reduceCtorEq, Nat.reduceMul, Nat.reduceBEq, Int.reduceEq, if_true, if_false, eq_self, ne_eq, env_bT, T_30, T_39, Token.pv_eq, pf_33, e34]
      refine AW.ret ?_
      cases h
      show finish _ _ _ _ _ = _
      first | rfl | (simp [finish, resOf, renArgs, toPV, selObjs, sl])
  · replace h := bif_f hsp3 h
    refine AW.reg hS [(0, .ref 0 0), (4, .ref 3 0), (39, .pv (.bool false))] [.var [.pv (.str x3), .pv (.int .i64 x4), .vec 1 (List.length l8), .vec 2 (List.length l9), .pv (.int .i64 x5), .pv (.int .i64 x6), .pv (.int .i64 x7)], .row 30 4 (List.map Token.pv l8) true, .row 9 1 (List.map PV.str l9) true, .var [.pv (.int .i64 t1.kind_), .pv (.int .i64 t1.at_), .pv (.str t1.text_), .pv (.str t1.quoted_)]] ?_ ?_
    · clear h
      (simp -implicitDefEqProofs only [RUNS, qindex, Nat.reduceAdd, Nat.reduceLeDiff, Nat.reduceSub, reduceIte, Nat.reduceEqDiff, Nat.reduceLT, reduceCtorEq, Nat.reduceMul, Nat.reduceBEq, Int.reduceEq, if_true, if_false, eq_self, ne_eq, env_bT, T_3, T_30, T_39, Token.pv_eq, hsp3]); repeat' (split <;> rename_i hb <;> (try simp only [HBS, ge_iff_le, gt_iff_lt] at hb) <;> simp -implicitDefEqProofs only [RUNS, qindex, Nat.reduceAdd, Nat.reduceLeDiff, Nat.reduceSub, reduceIte, Nat.reduceEqDiff, Nat.reduceLT, reduceCtorEq, Nat.reduceMul, Nat.reduceBEq, Int.reduceEq, if_true, if_false, eq_self, ne_eq, env_bT, T_3, T_30, T_39, Token.pv_eq, hsp3, *, decide_true, decide_false, Decidable.not_not, not_false_eq_true, not_true_eq_false])
      all_goals (first | (simp only [BOOLS]; done) | (simp [*]; done) | ((try simp only [CLOS, beq_iff_eq, bne_iff_ne, ne_eq] at *) <;> omega) | (simp_all; done) | (simp_all <;> omega))
    refine AW.cond (b := false) rfl (fun hb => absurd hb (by decide)) (fun _ => ?_)
    refine AW.skip ?_
    refine AW.seq ?_
    replace h := Option.bind_eq_some_iff.1 h; obtain ⟨⟨r21, x22, x23, o24⟩, q25, h⟩ := h
    dsimp only at h
    have f26 := c_F33x1 t1 x3 x4 x5 x6 x7 l8 l9 r21 x22 x23 o24 q25
    try dsimp only at f26
    have e27 : ecall O [.var [.pv (.str x3), .pv (.int .i64 x4), .vec 1 (List.length l8), .vec 2 (List.length l9), .pv (.int .i64 x5), .pv (.int .i64 x6), .pv (.int .i64 x7)], .row 30 4 (List.map Token.pv l8) true, .row 9 1 (List.map PV.str l9) true, .var [.pv (.int .i64 t1.kind_), .pv (.int .i64 t1.at_), .pv (.str t1.text_), .pv (.str t1.quoted_)]] 33 [.ref 0 0, .pv (.agg [.int .i64 t1.kind_, .int .i64 t1.at_, .str t1.text_, .str t1.quoted_])] = some (retAV [.pv (.bool r21)], [.var [.pv (.str x3), .pv (.int .i64 x4), .vec 1 (List.length o24), .vec 2 (List.length l9), .pv (.int .i64 x5), .pv (.int .i64 x22), .pv (.int .i64 x23)], .row 30 4 (List.map Token.pv o24) true, .row 9 1 (List.map PV.str l9) true, .var [.pv (.int .i64 t1.kind_), .pv (.int .i64 t1.at_), .pv (.str t1.text_), .pv (.str t1.quoted_)]]) := ecall_eq rfl rfl rfl f26 rfl rfl rfl
    refine AW.reg hS [(6, .pv (.bool r21))] [.var [.pv (.str x3), .pv (.int .i64 x4), .vec 1 (List.length o24), .vec 2 (List.length l9), .pv (.int .i64 x5), .pv (.int .i64 x22), .pv (.int .i64 x23)], .row 30 4 (List.map Token.pv o24) true, .row 9 1 (List.map PV.str l9) true, .var [.pv (.int .i64 t1.kind_), .pv (.int .i64 t1.at_), .pv (.str t1.text_), .pv (.str t1.quoted_)]] ?_ ?_
    · simp -implicitDefEqProofs only [RUNS, qindex, Nat.reduceAdd, Nat.reduceLeDiff, Nat.reduceSub, reduceIte, Nat.reduceEqDiff, Nat.reduceLT, reduceCtorEq, Nat.reduceMul, Nat.reduceBEq, Int.reduceEq, if_true, if_false, eq_self, ne_eq, env_bT, T_30, T_39, Token.pv_eq, pf_33, e27]
    refine AW.ret ?_
    cases h
    show finish _ _ _ _ _ = _
    first | rfl | (simp [finish, resOf, renArgs, toPV, selObjs, sl])

set_option maxHeartbeats 4000000 in
theorem g_F55 {O : Orc} (hS : Sound env O) (hpf : O.pf = pfn) (c1 : Int) (r2 : Bool) (h : F55 c1 = some r2) : Good env 55 [.pv (.int .u8 c1)] [] [.pv (.bool r2)] [] := by
  refine Good.start (fn := Tryd.f55) (N := 33) fn_55 rfl rfl (by simp) [] _ rfl rfl ?_
  rw [F55] at h
  refine AW.seq ?_
  refine AW.reg hS [(0, .pv (.int .u8 c1))] [] ?_ ?_
  · simp -implicitDefEqProofs only [RUNS, qindex, Nat.reduceAdd, Nat.reduceLeDiff, Nat.reduceSub, reduceIte, Nat.reduceEqDiff, Nat.reduceLT, reduceCtorEq, Nat.reduceMul, Nat.reduceBEq, Int.reduceEq, if_true, if_false, eq_self, ne_eq, env_bT, Token.pv_eq]
  refine AW.seq ?_
  refine AW.reg hS [(2, .pv (.bool (((((decide (97 ≤ c1) && decide (c1 ≤ 122)) || (decide (65 ≤ c1) && decide (c1 ≤ 90))) || (decide (48 ≤ c1) && decide (c1 ≤ 57))) || decide (c1 = 95)) || decide (c1 = 42))))] [] ?_ ?_
  · clear h
    (simp -implicitDefEqProofs only [RUNS, qindex, Nat.reduceAdd, Nat.reduceLeDiff, Nat.reduceSub, reduceIte, Nat.reduceEqDiff, Nat.reduceLT, reduceCtorEq, Nat.reduceMul, Nat.reduceBEq, Int.reduceEq, if_true, if_false, eq_self, ne_eq, env_bT, T_5, Token.pv_eq, eqT_5]); repeat' (split <;> rename_i hb <;> (try simp only [HBS, ge_iff_le, gt_iff_lt] at hb) <;> simp -implicitDefEqProofs only [RUNS, qindex, Nat.reduceAdd, Nat.reduceLeDiff, Nat.reduceSub, reduceIte, Nat.reduceEqDiff, Nat.reduceLT, reduceCtorEq, Nat.reduceMul, Nat.reduceBEq, Int.reduceEq, if_true, if_false, eq_self, ne_eq, env_bT, T_5, Token.pv_eq, eqT_5, *, decide_true, decide_false, Decidable.not_not, not_false_eq_true, not_true_eq_false])
    all_goals (first | (simp only [BOOLS]; done) | (simp [*]; done) | ((try simp only [CLOS, beq_iff_eq, bne_iff_ne, ne_eq] at *) <;> omega) | (simp_all; done) | (simp_all <;> omega))
  refine AW.ret ?_
  cases h
  show finish _ _ _ _ _ = _
  first | rfl | (simp [finish, resOf, renArgs, toPV, selObjs, sl])

set_option maxHeartbeats 4000000 in
theorem g_F40 {O : Orc} (hS : Sound env O) (hpf : O.pf = pfn) (c_F55 : C_F55 O) (c_F34x2 : C_F34x2 O) (c_L_Repeat : C_L_Repeat O) (c_F33x1 : C_F33x1 O) (x1 : Str) (x2 : Int) (x3 : Int) (x4 : Int) (x5 : Int) (l6 : List Token) (l7 : List Str) (r8 : Bool) (x9 : Int) (x10 : Int) (x11 : Int) (o12 : List Token) (h : F40 x1 x2 x3 x4 x5 l6 l7 = some (r8, x9, x10, x11, o12)) : Good env 40 [.ref 0 0] [.var [.pv (.str x1), .pv (.int .i64 x2), .vec 1 (List.length l6), .vec 2 (List.length l7), .pv (.int .i64 x3), .pv (.int .i64 x4), .pv (.int .i64 x5)], .row 30 4 (List.map Token.pv l6) true, .row 9 1 (List.map PV.str l7) true] [.pv (.bool r8)] [.var [.pv (.str x1), .pv (.int .i64 x9), .vec 1 (List.length o12), .vec 2 (List.length l7), .pv (.int .i64 x3), .pv (.int .i64 x10), .pv (.int .i64 x11)], .row 30 4 (List.map Token.pv o12) true, .row 9 1 (List.map PV.str l7) true] := by
  have pf_33 : O.pf 33 = false := by rw [hpf]; rfl
  have pf_34 : O.pf 34 = false := by rw [hpf]; rfl
  have pf_53 : O.pf 53 = true := by rw [hpf]; rfl
  have pf_55 : O.pf 55 = true := by rw [hpf]; rfl
  refine Good.start (fn := Tryd.f40) (N := 65) fn_40 rfl rfl (by simp) [] _ rfl rfl ?_
  rw [F40] at h
  refine AW.seq ?_
  refine AW.reg hS [(0, .ref 0 0)] [.var [.pv (.str x1), .pv (.int .i64 x2), .vec 1 (List.length l6), .vec 2 (List.length l7), .pv (.int .i64 x3), .pv (.int .i64 x4), .pv (.int .i64 x5)], .row 30 4 (List.map Token.pv l6) true, .row 9 1 (List.map PV.str l7) true] ?_ ?_
  · simp -implicitDefEqProofs only [RUNS, qindex, Nat.reduceAdd, Nat.reduceLeDiff, Nat.reduceSub, reduceIte, Nat.reduceEqDiff, Nat.reduceLT, reduceCtorEq, Nat.reduceMul, Nat.reduceBEq, Int.reduceEq, if_true, if_false, eq_self, ne_eq, env_bT, Token.pv_eq]
  refine AW.seq ?_
  refine AW.reg hS [(0, .ref 0 0), (3, .pv (.int .i64 x2))] [.var [.pv (.str x1), .pv (.int .i64 x2), .vec 1 (List.length l6), .vec 2 (List.length l7), .pv (.int .i64 x3), .pv (.int .i64 x4), .pv (.int .i64 x5)], .row 30 4 (List.map Token.pv l6) true, .row 9 1 (List.map PV.str l7) true] ?_ ?_
  · simp -implicitDefEqProofs only [RUNS, qindex, Nat.reduceAdd, Nat.reduceLeDiff, Nat.reduceSub, reduceIte, Nat.reduceEqDiff, Nat.reduceLT, reduceCtorEq, Nat.reduceMul, Nat.reduceBEq, Int.reduceEq, if_true, if_false, eq_self, ne_eq, env_bT, T_3, T_42, Token.pv_eq]
  refine AW.seq ?_
  refine AW.block ?_
  refine AW.weak (Weak.slots (L := [(0, .ref 0 0), (3, .pv (.int .i64 x2))]) ⟨rfl, rfl, trivial⟩) ?_
  refine AW.loopI (α := Nat × Int) (fun (_, x13) => ⟨sl [(0, .ref 0 0), (3, .pv (.int .i64 x2))], 65, [.var [.pv (.str x1), .pv (.int .i64 x13), .vec 1 (List.length l6), .vec 2 (List.length l7), .pv (.int .i64 x3), .pv (.int .i64 x4), .pv (.int .i64 x5)], .row 30 4 (List.map Token.pv l6) true, .row 9 1 (List.map PV.str l7) true]⟩) (fun x => iter (F40_b1 x1 x2 x3 x4 x5 l6 l7) x.1 x.2 = some (r8, x9, x10, x11, o12)) (fun x => x.1) (BIG, x2) h ?_
  clear h
  intro ⟨n44, x13⟩ h
  replace h := iter_some h; obtain ⟨m16, rfl, h⟩ := h
  rw [F40_b1] at h
  try dsimp only at h
  show AW _ _ _ _ ⟨sl [(0, .ref 0 0), (3, .pv (.int .i64 x2))], 65, [.var [.pv (.str x1), .pv (.int .i64 x13), .vec 1 (List.length l6), .vec 2 (List.length l7), .pv (.int .i64 x3), .pv (.int .i64 x4), .pv (.int .i64 x5)], .row 30 4 (List.map Token.pv l6) true, .row 9 1 (List.map PV.str l7) true]⟩
  refine AW.seq ?_
  refine AW.seq ?_
  replace h := Option.bind_eq_some_iff.1 h; obtain ⟨c17, q18, h⟩ := h
  have f19 := sidx_g (guardO_t q18)
  replace h := Option.bind_eq_some_iff.1 h; obtain ⟨r20, q21, h⟩ := h
  have f22 := fun hg => c_F55 c17 r20 (guardO_t q21 hg)
  try dsimp only at f22
  refine AW.dreg mixed hS (hpf ▸ (by kernel_rfl : orderOK pfn _ = true)) [(0, .ref 0 0), (3, .pv (.int .i64 x2)), (30, .pv (.bool (decide (x13 < (x1.length : Int)) && r20)))] [.var [.pv (.str x1), .pv (.int .i64 x13), .vec 1 (List.length l6), .vec 2 (List.length l7), .pv (.int .i64 x3), .pv (.int .i64 x4), .pv (.int .i64 x5)], .row 30 4 (List.map Token.pv l6) true, .row 9 1 (List.map PV.str l7) true] ?_ ?_
  · clear h
    (simp -implicitDefEqProofs only [RUNS, qindex, Nat.reduceAdd, Nat.reduceLeDiff, Nat.reduceSub, reduceIte, Nat.reduceEqDiff, Nat.reduceLT, reduceCtorEq, Nat.reduceMul, Nat.reduceBEq, Int.reduceEq, if_true, if_false, eq_self, ne_eq, env_bT, T_3, T_5, T_9, T_42, Token.pv_eq, eqT_3, f19.1, f19.2.1, f19.2.2, pf_55, f22]); repeat' (split <;> rename_i hb <;> (try simp only [HBS, ge_iff_le, gt_iff_lt] at hb) <;> simp -implicitDefEqProofs only [RUNS, qindex, Nat.reduceAdd, Nat.reduceLeDiff, Nat.reduceSub, reduceIte, Nat.reduceEqDiff, Nat.reduceLT, reduceCtorEq, Nat.reduceMul, Nat.reduceBEq, Int.reduceEq, if_true, if_false, eq_self, ne_eq, env_bT, T_3, T_5, T_9, T_42, Token.pv_eq, eqT_3, f19.1, f19.2.1, f19.2.2, pf_55, f22, *, decide_true, decide_false, Decidable.not_not, not_false_eq_true, not_true_eq_false])
    all_goals (first | (simp only [BOOLS]; done) | (simp [*]; done) | ((try simp only [CLOS, beq_iff_eq, bne_iff_ne, ne_eq] at *) <;> omega) | (simp_all; done) | (simp_all <;> omega))
  refine AW.cond (b := (decide (x13 < (x1.length : Int)) && r20)) rfl (fun hb23 => ?_) (fun hb23 => ?_)
  · replace h := bif_t hb23 h
    refine AW.skip ?_
    refine AW.block ?_
    refine AW.reg hS [(0, .ref 0 0), (3, .pv (.int .i64 x2))] [.var [.pv (.str x1), .pv (.int .i64 (IntKind.wrap .i64 (x13 + 1))), .vec 1 (List.length l6), .vec 2 (List.length l7), .pv (.int .i64 x3), .pv (.int .i64 x4), .pv (.int .i64 x5)], .row 30 4 (List.map Token.pv l6) true, .row 9 1 (List.map PV.str l7) true] ?_ ?_
    · simp -implicitDefEqProofs only [RUNS, qindex, Nat.reduceAdd, Nat.reduceLeDiff, Nat.reduceSub, reduceIte, Nat.reduceEqDiff, Nat.reduceLT, reduceCtorEq, Nat.reduceMul, Nat.reduceBEq, Int.reduceEq, if_true, if_false, eq_self, ne_eq, env_bT, T_3, T_42, Token.pv_eq, eqT_3]
    exact ⟨(m16, IntKind.wrap .i64 (x13 + 1)), h, (Weak.norm (m := 3) (Nat.le_of_ble_eq_true rfl) ⟨rfl, rfl, trivial⟩ rfl rfl rfl), Nat.lt_succ_self _⟩
  · replace h := bif_f hb23 h
    refine AW.exit ?_
    refine AW.seq ?_
    refine AW.seq ?_
    refine AW.reg hS [(0, .ref 0 0), (3, .pv (.int .i64 x2)), (43, .pv (.bool (decide (x13 = x2))))] [.var [.pv (.str x1), .pv (.int .i64 x13), .vec 1 (List.length l6), .vec 2 (List.length l7), .pv (.int .i64 x3), .pv (.int .i64 x4), .pv (.int .i64 x5)], .row 30 4 (List.map Token.pv l6) true, .row 9 1 (List.map PV.str l7) true] ?_ ?_
    · simp -implicitDefEqProofs only [RUNS, qindex, Nat.reduceAdd, Nat.reduceLeDiff, Nat.reduceSub, reduceIte, Nat.reduceEqDiff, Nat.reduceLT, reduceCtorEq, Nat.reduceMul, Nat.reduceBEq, Int.reduceEq, if_true, if_false, eq_self, ne_eq, env_bT, T_3, T_42, Token.pv_eq, eqT_3]
    refine AW.cond (b := decide (x13 = x2)) rfl (fun hb24 => ?_) (fun hb24 => ?_)
    · replace h := bif_t hb24 h
      refine AW.seq ?_
      replace h := Option.bind_eq_some_iff.1 h; obtain ⟨⟨r25, x26, x27⟩, q28, h⟩ := h
      dsimp only at h
      have f29 := c_F34x2 x2 47 x1 x13 x3 x4 x5 l6 l7 r25 x26 x27 q28
      try dsimp only at f29
      have e30 : ecall O [.var [.pv (.str x1), .pv (.int .i64 x13), .vec 1 (List.length l6), .vec 2 (List.length l7), .pv (.int .i64 x3), .pv (.int .i64 x4), .pv (.int .i64 x5)], .row 30 4 (List.map Token.pv l6) true, .row 9 1 (List.map PV.str l7) true] 34 [.ref 0 0, .pv (.int .i64 x2), .pv (.int .i64 47)] = some (retAV [.pv (.bool r25)], [.var [.pv (.str x1), .pv (.int .i64 x13), .vec 1 (List.length l6), .vec 2 (List.length l7), .pv (.int .i64 x3), .pv (.int .i64 x26), .pv (.int .i64 x27)], .row 30 4 (List.map Token.pv l6) true, .row 9 1 (List.map PV.str l7) true]) := ecall_eq rfl rfl rfl f29 rfl rfl rfl
      refine AW.reg hS [(2, .pv (.bool r25))] [.var [.pv (.str x1), .pv (.int .i64 x13), .vec 1 (List.length l6), .vec 2 (List.length l7), .pv (.int .i64 x3), .pv (.int .i64 x26), .pv (.int .i64 x27)], .row 30 4 (List.map Token.pv l6) true, .row 9 1 (List.map PV.str l7) true] ?_ ?_
      · simp -implicitDefEqProofs only [RUNS, qindex, Nat.reduceAdd, Nat.reduceLeDiff, Nat.reduceSub, reduceIte, Nat.reduceEqDiff, Nat.reduceLT, reduceCtorEq, Nat.reduceMul, Nat.reduceBEq, Int.reduceEq, if_true, if_false, eq_self, ne_eq, env_bT, T_3, T_25, T_39, Token.pv_eq, pf_34, e30]
      refine AW.ret ?_
      cases h
      show finish _ _ _ _ _ = _
      first | rfl | (simp [finish, resOf, renArgs, toPV, selObjs, sl])
    · replace h := bif_f hb24 h
      refine AW.skip ?_
      refine AW.seq ?_
      replace h := Option.bind_eq_some_iff.1 h; obtain ⟨t31, q32, h⟩ := h
      have f33 := sslice_f q32
      have f33e := f33.2.2.2.2
      try simp only [Int.toNat_natCast, Int.toNat_zero, List.drop_zero] at f33e
      have f33l := f33.2.2.1
      try simp only [Int.toNat_natCast, Int.toNat_zero] at f33l
      refine AW.dreg mixed hS (hpf ▸ (by kernel_rfl : orderOK pfn _ = true)) [(0, .ref 0 0), (3, .pv (.int .i64 x2)), (4, .pv (.str t31))] [.var [.pv (.str x1), .pv (.int .i64 x13), .vec 1 (List.length l6), .vec 2 (List.length l7), .pv (.int .i64 x3), .pv (.int .i64 x4), .pv (.int .i64 x5)], .row 30 4 (List.map Token.pv l6) true, .row 9 1 (List.map PV.str l7) true] ?_ ?_
      · simp -implicitDefEqProofs only [RUNS, qindex, Nat.reduceAdd, Nat.reduceLeDiff, Nat.reduceSub, reduceIte, Nat.reduceEqDiff, Nat.reduceLT, reduceCtorEq, Nat.reduceMul, Nat.reduceBEq, Int.reduceEq, if_true, if_false, eq_self, ne_eq, env_bT, T_3, T_9, T_42, Token.pv_eq, f33.1, f33.2.1, f33l, f33.2.2.2.1, f33e, Int.toNat_natCast, Int.toNat_zero]
      refine AW.seq ?_
      replace h := Option.bind_eq_some_iff.1 h; obtain ⟨t34, q35, h⟩ := h
      have f36 := c_L_Repeat [48] (t31.length : Int) t34 q35
      try dsimp only at f36
      try simp only [List.map_cons, List.map_nil, Token.pv_eq] at f36
      replace h := Option.bind_eq_some_iff.1 h; obtain ⟨⟨r37, x38, x39, o40⟩, q41, h⟩ := h
      dsimp only at h
      have f42 := c_F33x1 (Token.mk 1 x2 t31 t34) x1 x13 x3 x4 x5 l6 l7 r37 x38 x39 o40 q41
      try dsimp only at f42
      have e43 : ecall O [.var [.pv (.str x1), .pv (.int .i64 x13), .vec 1 (List.length l6), .vec 2 (List.length l7), .pv (.int .i64 x3), .pv (.int .i64 x4), .pv (.int .i64 x5)], .row 30 4 (List.map Token.pv l6) true, .row 9 1 (List.map PV.str l7) true] 33 [.ref 0 0, .pv (.agg [.int .i64 1, .int .i64 x2, .str t31, .str t34])] = some (retAV [.pv (.bool r37)], [.var [.pv (.str x1), .pv (.int .i64 x13), .vec 1 (List.length o40), .vec 2 (List.length l7), .pv (.int .i64 x3), .pv (.int .i64 x38), .pv (.int .i64 x39)], .row 30 4 (List.map Token.pv o40) true, .row 9 1 (List.map PV.str l7) true]) := ecall_eq rfl rfl rfl f42 rfl rfl rfl
      refine AW.reg hS [(2, .pv (.bool r37))] [.var [.pv (.str x1), .pv (.int .i64 x13), .vec 1 (List.length o40), .vec 2 (List.length l7), .pv (.int .i64 x3), .pv (.int .i64 x38), .pv (.int .i64 x39)], .row 30 4 (List.map Token.pv o40) true, .row 9 1 (List.map PV.str l7) true] ?_ ?_
      · simp -implicitDefEqProofs only [RUNS, qindex, Nat.reduceAdd, Nat.reduceLeDiff, Nat.reduceSub, reduceIte, Nat.reduceEqDiff, Nat.reduceLT, reduceCtorEq, Nat.reduceMul, Nat.reduceBEq, Int.reduceEq, if_true, if_false, eq_self, ne_eq, env_bT, T_3, T_9, T_30, T_39, Token.pv_eq, pf_53, f36, ownT_30, pf_33, e43]
      refine AW.ret ?_
      cases h
      show finish _ _ _ _ _ = _
      first | rfl | (simp [finish, resOf, renArgs, toPV, selObjs, sl])

set_option maxHeartbeats 4000000 in
theorem g_F25 {O : Orc} (hS : Sound env O) (hpf : O.pf = pfn) (c_F37 : C_F37 O) (c_F38 : C_F38 O) (c_F39 : C_F39 O) (c_F40 : C_F40 O) (c_F36x1 : C_F36x1 O) (x1 : Str) (x2 : Int) (x3 : Int) (x4 : Int) (x5 : Int) (l6 : List Token) (l7 : List Str) (r8 : Bool) (x9 : Int) (x10 : Int) (x11 : Int) (o12 : List Token) (h : F25 x1 x2 x3 x4 x5 l6 l7 = some (r8, x9, x10, x11, o12)) : Good env 25 [.ref 0 0] [.var [.pv (.str x1), .pv (.int .i64 x2), .vec 1 (List.length l6), .vec 2 (List.length l7), .pv (.int .i64 x3), .pv (.int .i64 x4), .pv (.int .i64 x5)], .row 30 4 (List.map Token.pv l6) true, .row 9 1 (List.map PV.str l7) true] [.pv (.bool r8)] [.var [.pv (.str x1), .pv (.int .i64 x9), .vec 1 (List.length o12), .vec 2 (List.length l7), .pv (.int .i64 x3), .pv (.int .i64 x10), .pv (.int .i64 x11)], .row 30 4 (List.map Token.pv o12) true, .row 9 1 (List.map PV.str l7) true] := by
  have pf_36 : O.pf 36 = false := by rw [hpf]; rfl
  have pf_37 : O.pf 37 = false := by rw [hpf]; rfl
  have pf_38 : O.pf 38 = false := by rw [hpf]; rfl
  have pf_39 : O.pf 39 = false := by rw [hpf]; rfl
  have pf_40 : O.pf 40 = false := by rw [hpf]; rfl
  refine Good.start (fn := Tryd.f25) (N := 64) fn_25 rfl rfl (by simp) [] _ rfl rfl ?_
  rw [F25] at h
  refine AW.seq ?_
  refine AW.reg hS [(0, .ref 0 0)] [.var [.pv (.str x1), .pv (.int .i64 x2), .vec 1 (List.length l6), .vec 2 (List.length l7), .pv (.int .i64 x3), .pv (.int .i64 x4), .pv (.int .i64 x5)], .row 30 4 (List.map Token.pv l6) true, .row 9 1 (List.map PV.str l7) true] ?_ ?_
  · simp -implicitDefEqProofs only [RUNS, qindex, Nat.reduceAdd, Nat.reduceLeDiff, Nat.reduceSub, reduceIte, Nat.reduceEqDiff, Nat.reduceLT, reduceCtorEq, Nat.reduceMul, Nat.reduceBEq, Int.reduceEq, if_true, if_false, eq_self, ne_eq, env_bT, Token.pv_eq]
  refine AW.seq ?_
  refine AW.reg hS [(0, .ref 0 0), (3, .pv (.int .i64 x2))] [.var [.pv (.str x1), .pv (.int .i64 x2), .vec 1 (List.length l6), .vec 2 (List.length l7), .pv (.int .i64 x3), .pv (.int .i64 x4), .pv (.int .i64 x5)], .row 30 4 (List.map Token.pv l6) true, .row 9 1 (List.map PV.str l7) true] ?_ ?_
  · simp -implicitDefEqProofs only [RUNS, qindex, Nat.reduceAdd, Nat.reduceLeDiff, Nat.reduceSub, reduceIte, Nat.reduceEqDiff, Nat.reduceLT, reduceCtorEq, Nat.reduceMul, Nat.reduceBEq, Int.reduceEq, if_true, if_false, eq_self, ne_eq, env_bT, T_3, T_42, Token.pv_eq]
  refine AW.seq ?_
  replace h := Option.bind_eq_some_iff.1 h; obtain ⟨r13, q14, h⟩ := h
  have f15 := c_F37 x1 x2 x3 x4 x5 l6 l7 r13 q14
  try dsimp only at f15
  have e16 : ecall O [.var [.pv (.str x1), .pv (.int .i64 x2), .vec 1 (List.length l6), .vec 2 (List.length l7), .pv (.int .i64 x3), .pv (.int .i64 x4), .pv (.int .i64 x5)], .row 30 4 (List.map Token.pv l6) true, .row 9 1 (List.map PV.str l7) true] 37 [.ref 0 0] = some (retAV [.pv (.bool r13)], [.var [.pv (.str x1), .pv (.int .i64 x2), .vec 1 (List.length l6), .vec 2 (List.length l7), .pv (.int .i64 x3), .pv (.int .i64 x4), .pv (.int .i64 x5)], .row 30 4 (List.map Token.pv l6) true, .row 9 1 (List.map PV.str l7) true]) := ecall_eq rfl rfl rfl f15 rfl rfl rfl
  refine AW.reg hS [(0, .ref 0 0), (3, .pv (.int .i64 x2)), (4, .pv (.bool r13))] [.var [.pv (.str x1), .pv (.int .i64 x2), .vec 1 (List.length l6), .vec 2 (List.length l7), .pv (.int .i64 x3), .pv (.int .i64 x4), .pv (.int .i64 x5)], .row 30 4 (List.map Token.pv l6) true, .row 9 1 (List.map PV.str l7) true] ?_ ?_
  · simp -implicitDefEqProofs only [RUNS, qindex, Nat.reduceAdd, Nat.reduceLeDiff, Nat.reduceSub, reduceIte, Nat.reduceEqDiff, Nat.reduceLT, reduceCtorEq, Nat.reduceMul, Nat.reduceBEq, Int.reduceEq, if_true, if_false, eq_self, ne_eq, env_bT, T_39, Token.pv_eq, pf_37, e16]
  refine AW.seq ?_
  replace h := Option.bind_eq_some_iff.1 h; obtain ⟨⟨r17, r18, x19, x20⟩, q21, h⟩ := h
  dsimp only at h
  have f22 := c_F38 x1 x2 x3 x4 x5 l6 l7 r17 r18 x19 x20 q21
  try dsimp only at f22
  have e23 : ecall O [.var [.pv (.str x1), .pv (.int .i64 x2), .vec 1 (List.length l6), .vec 2 (List.length l7), .pv (.int .i64 x3), .pv (.int .i64 x4), .pv (.int .i64 x5)], .row 30 4 (List.map Token.pv l6) true, .row 9 1 (List.map PV.str l7) true] 38 [.ref 0 0] = some (retAV [.pv (.str r17), .pv (.bool r18)], [.var [.pv (.str x1), .pv (.int .i64 x2), .vec 1 (List.length l6), .vec 2 (List.length l7), .pv (.int .i64 x3), .pv (.int .i64 x19), .pv (.int .i64 x20)], .row 30 4 (List.map Token.pv l6) true, .row 9 1 (List.map PV.str l7) true]) := ecall_eq rfl rfl rfl f22 rfl rfl rfl
  refine AW.reg hS [(0, .ref 0 0), (3, .pv (.int .i64 x2)), (4, .pv (.bool r13)), (5, .pv (.str r17)), (6, .pv (.bool r18))] [.var [.pv (.str x1), .pv (.int .i64 x2), .vec 1 (List.length l6), .vec 2 (List.length l7), .pv (.int .i64 x3), .pv (.int .i64 x19), .pv (.int .i64 x20)], .row 30 4 (List.map Token.pv l6) true, .row 9 1 (List.map PV.str l7) true] ?_ ?_
  · simp -implicitDefEqProofs only [RUNS, qindex, Nat.reduceAdd, Nat.reduceLeDiff, Nat.reduceSub, reduceIte, Nat.reduceEqDiff, Nat.reduceLT, reduceCtorEq, Nat.reduceMul, Nat.reduceBEq, Int.reduceEq, if_true, if_false, eq_self, ne_eq, env_bT, T_39, Token.pv_eq, pf_38, e23]
  refine AW.seq ?_
  refine AW.seq ?_
  refine AW.reg hS [(0, .ref 0 0), (3, .pv (.int .i64 x2)), (4, .pv (.bool r13)), (5, .pv (.str r17)), (21, .pv (.bool (!r18)))] [.var [.pv (.str x1), .pv (.int .i64 x2), .vec 1 (List.length l6), .vec 2 (List.length l7), .pv (.int .i64 x3), .pv (.int .i64 x19), .pv (.int .i64 x20)], .row 30 4 (List.map Token.pv l6) true, .row 9 1 (List.map PV.str l7) true] ?_ ?_
  · simp -implicitDefEqProofs only [RUNS, qindex, Nat.reduceAdd, Nat.reduceLeDiff, Nat.reduceSub, reduceIte, Nat.reduceEqDiff, Nat.reduceLT, reduceCtorEq, Nat.reduceMul, Nat.reduceBEq, Int.reduceEq, if_true, if_false, eq_self, ne_eq, env_bT, Token.pv_eq]
  refine AW.cond (b := !r18) rfl (fun hb24 => ?_) (fun hb24 => ?_)
  · replace h := bif_t hb24 h
    refine AW.seq ?_
    refine AW.reg hS [(2, .pv (.bool false))] [.var [.pv (.str x1), .pv (.int .i64 x2), .vec 1 (List.length l6), .vec 2 (List.length l7), .pv (.int .i64 x3), .pv (.int .i64 x19), .pv (.int .i64 x20)], .row 30 4 (List.map Token.pv l6) true, .row 9 1 (List.map PV.str l7) true] ?_ ?_
    · simp -implicitDefEqProofs only [RUNS, qindex, Nat.reduceAdd, Nat.reduceLeDiff, Nat.reduceSub, reduceIte, Nat.reduceEqDiff, Nat.reduceLT, reduceCtorEq, Nat.reduceMul, Nat.reduceBEq, Int.reduceEq, if_true, if_false, eq_self, ne_eq, env_bT, Token.pv_eq]
    refine AW.ret ?_
    cases h
    show finish _ _ _ _ _ = _
    first | rfl | (simp [finish, resOf, renArgs, toPV, selObjs, sl])
  · replace h := bif_f hb24 h
    refine AW.skip ?_
    refine AW.seq ?_
    refine AW.seq ?_
    refine AW.reg hS [(0, .ref 0 0), (3, .pv (.int .i64 x2)), (4, .pv (.bool r13)), (5, .pv (.str r17)), (23, .pv (.bool (!decide (r17 = []))))] [.var [.pv (.str x1), .pv (.int .i64 x2), .vec 1 (List.length l6), .vec 2 (List.length l7), .pv (.int .i64 x3), .pv (.int .i64 x19), .pv (.int .i64 x20)], .row 30 4 (List.map Token.pv l6) true, .row 9 1 (List.map PV.str l7) true] ?_ ?_
    · simp -implicitDefEqProofs only [RUNS, qindex, Nat.reduceAdd, Nat.reduceLeDiff, Nat.reduceSub, reduceIte, Nat.reduceEqDiff, Nat.reduceLT, reduceCtorEq, Nat.reduceMul, Nat.reduceBEq, Int.reduceEq, if_true, if_false, eq_self, ne_eq, env_bT, T_9, Token.pv_eq, eqT_9]
    refine AW.cond (b := !decide (r17 = [])) rfl (fun hb25 => ?_) (fun hb25 => ?_)
    · replace h := bif_t hb25 h
      refine AW.seq ?_
      refine AW.reg hS [(0, .ref 0 0), (3, .pv (.int .i64 x2)), (4, .pv (.bool r13)), (5, .pv (.str r17))] [.var [.pv (.str x1), .pv (.int .i64 (IntKind.wrap .i64 (x2 + (r17.length : Int)))), .vec 1 (List.length l6), .vec 2 (List.length l7), .pv (.int .i64 x3), .pv (.int .i64 x19), .pv (.int .i64 x20)], .row 30 4 (List.map Token.pv l6) true, .row 9 1 (List.map PV.str l7) true] ?_ ?_
      · simp -implicitDefEqProofs only [RUNS, qindex, Nat.reduceAdd, Nat.reduceLeDiff, Nat.reduceSub, reduceIte, Nat.reduceEqDiff, Nat.reduceLT, reduceCtorEq, Nat.reduceMul, Nat.reduceBEq, Int.reduceEq, if_true, if_false, eq_self, ne_eq, env_bT, T_3, T_9, T_42, Token.pv_eq, eqT_3]
      refine AW.seq ?_
      refine AW.seq ?_
      replace h := Option.bind_eq_some_iff.1 h; obtain ⟨⟨r26, x27, x28, o29⟩, q30, h⟩ := h
      dsimp only at h
      have f31 := c_F39 (Token.mk 2 x2 r17 []) r13 x1 (IntKind.wrap .i64 (x2 + (r17.length : Int))) x3 x19 x20 l6 l7 r26 x27 x28 o29 q30
      try dsimp only at f31
      have e32 : ecall O [.var [.pv (.str x1), .pv (.int .i64 (IntKind.wrap .i64 (x2 + (r17.length : Int)))), .vec 1 (List.length l6), .vec 2 (List.length l7), .pv (.int .i64 x3), .pv (.int .i64 x19), .pv (.int .i64 x20)], .row 30 4 (List.map Token.pv l6) true, .row 9 1 (List.map PV.str l7) true] 39 [.ref 0 0, .pv (.agg [.int .i64 2, .int .i64 x2, .str r17, .str []]), .pv (.bool r13)] = some (retAV [.pv (.bool r26)], [.var [.pv (.str x1), .pv (.int .i64 (IntKind.wrap .i64 (x2 + (r17.length : Int)))), .vec 1 (List.length o29), .vec 2 (List.length l7), .pv (.int .i64 x3), .pv (.int .i64 x27), .pv (.int .i64 x28)], .row 30 4 (List.map Token.pv o29) true, .row 9 1 (List.map PV.str l7) true]) := ecall_eq rfl rfl rfl f31 rfl rfl rfl
      refine AW.reg hS [(0, .ref 0 0), (5, .pv (.str r17)), (39, .pv (.bool (!r26)))] [.var [.pv (.str x1), .pv (.int .i64 (IntKind.wrap .i64 (x2 + (r17.length : Int)))), .vec 1 (List.length o29), .vec 2 (List.length l7), .pv (.int .i64 x3), .pv (.int .i64 x27), .pv (.int .i64 x28)], .row 30 4 (List.map Token.pv o29) true, .row 9 1 (List.map PV.str l7) true] ?_ ?_
      · simp -implicitDefEqProofs only [RUNS, qindex, Nat.reduceAdd, Nat.reduceLeDiff, Nat.reduceSub, reduceIte, Nat.reduceEqDiff, Nat.reduceLT, reduceCtorEq, Nat.reduceMul, Nat.reduceBEq, Int.reduceEq, if_true, if_false, eq_self, ne_eq, env_bT, T_4, T_30, T_39, Token.pv_eq, ownT_30, pf_39, e32]
      refine AW.cond (b := !r26) rfl (fun hb33 => ?_) (fun hb33 => ?_)
      · replace h := bif_t hb33 h
        refine AW.seq ?_
        refine AW.reg hS [(2, .pv (.bool false))] [.var [.pv (.str x1), .pv (.int .i64 (IntKind.wrap .i64 (x2 + (r17.length : Int)))), .vec 1 (List.length o29), .vec 2 (List.length l7), .pv (.int .i64 x3), .pv (.int .i64 x27), .pv (.int .i64 x28)], .row 30 4 (List.map Token.pv o29) true, .row 9 1 (List.map PV.str l7) true] ?_ ?_
        · simp -implicitDefEqProofs only [RUNS, qindex, Nat.reduceAdd, Nat.reduceLeDiff, Nat.reduceSub, reduceIte, Nat.reduceEqDiff, Nat.reduceLT, reduceCtorEq, Nat.reduceMul, Nat.reduceBEq, Int.reduceEq, if_true, if_false, eq_self, ne_eq, env_bT, Token.pv_eq]
        refine AW.ret ?_
        cases h
        show finish _ _ _ _ _ = _
        first | rfl | (simp [finish, resOf, renArgs, toPV, selObjs, sl])
      · replace h := bif_f hb33 h
        refine AW.skip ?_
        refine AW.seq ?_
        refine AW.seq ?_
        refine AW.reg hS [(0, .ref 0 0), (45, .pv (.bool (decide (r17 = [36]) || decide (r17 = [36, 35]))))] [.var [.pv (.str x1), .pv (.int .i64 (IntKind.wrap .i64 (x2 + (r17.length : Int)))), .vec 1 (List.length o29), .vec 2 (List.length l7), .pv (.int .i64 x3), .pv (.int .i64 x27), .pv (.int .i64 x28)], .row 30 4 (List.map Token.pv o29) true, .row 9 1 (List.map PV.str l7) true] ?_ ?_
        · clear h
          (simp -implicitDefEqProofs only [RUNS, qindex, Nat.reduceAdd, Nat.reduceLeDiff, Nat.reduceSub, reduceIte, Nat.reduceEqDiff, Nat.reduceLT, reduceCtorEq, Nat.reduceMul, Nat.reduceBEq, Int.reduceEq, if_true, if_false, eq_self, ne_eq, env_bT, T_9, Token.pv_eq, eqT_9]); repeat' (split <;> rename_i hb <;> (try simp only [HBS, ge_iff_le, gt_iff_lt] at hb) <;> simp -implicitDefEqProofs only [RUNS, qindex, Nat.reduceAdd, Nat.reduceLeDiff, Nat.reduceSub, reduceIte, Nat.reduceEqDiff, Nat.reduceLT, reduceCtorEq, Nat.reduceMul, Nat.reduceBEq, Int.reduceEq, if_true, if_false, eq_self, ne_eq, env_bT, T_9, Token.pv_eq, eqT_9, *, decide_true, decide_false, Decidable.not_not, not_false_eq_true, not_true_eq_false])
          all_goals (first | (simp only [BOOLS]; done) | (simp [*]; done) | ((try simp only [CLOS, beq_iff_eq, bne_iff_ne, ne_eq] at *) <;> omega) | (simp_all; done) | (simp_all <;> omega))
        refine AW.cond (b := (decide (r17 = [36]) || decide (r17 = [36, 35]))) rfl (fun hb34 => ?_) (fun hb34 => ?_)
        · replace h := bif_t hb34 h
          refine AW.seq ?_
          replace h := Option.bind_eq_some_iff.1 h; obtain ⟨⟨r35, x36, x37, x38, o39⟩, q40, h⟩ := h
          dsimp only at h
          have f41 := c_F40 x1 (IntKind.wrap .i64 (x2 + (r17.length : Int))) x3 x27 x28 o29 l7 r35 x36 x37 x38 o39 q40
          try dsimp only at f41
          have e42 : ecall O [.var [.pv (.str x1), .pv (.int .i64 (IntKind.wrap .i64 (x2 + (r17.length : Int)))), .vec 1 (List.length o29), .vec 2 (List.length l7), .pv (.int .i64 x3), .pv (.int .i64 x27), .pv (.int .i64 x28)], .row 30 4 (List.map Token.pv o29) true, .row 9 1 (List.map PV.str l7) true] 40 [.ref 0 0] = some (retAV [.pv (.bool r35)], [.var [.pv (.str x1), .pv (.int .i64 x36), .vec 1 (List.length o39), .vec 2 (List.length l7), .pv (.int .i64 x3), .pv (.int .i64 x37), .pv (.int .i64 x38)], .row 30 4 (List.map Token.pv o39) true, .row 9 1 (List.map PV.str l7) true]) := ecall_eq rfl rfl rfl f41 rfl rfl rfl
          refine AW.reg hS [(2, .pv (.bool r35))] [.var [.pv (.str x1), .pv (.int .i64 x36), .vec 1 (List.length o39), .vec 2 (List.length l7), .pv (.int .i64 x3), .pv (.int .i64 x37), .pv (.int .i64 x38)], .row 30 4 (List.map Token.pv o39) true, .row 9 1 (List.map PV.str l7) true] ?_ ?_
          · simp -implicitDefEqProofs only [RUNS, qindex, Nat.reduceAdd, Nat.reduceLeDiff, Nat.reduceSub, reduceIte, Nat.reduceEqDiff, Nat.reduceLT, reduceCtorEq, Nat.reduceMul, Nat.reduceBEq, Int.reduceEq, if_true, if_false, eq_self, ne_eq, env_bT, T_39, Token.pv_eq, pf_40, e42]
          refine AW.ret ?_
          cases h
          show finish _ _ _ _ _ = _
          first | rfl | (simp [finish, resOf, renArgs, toPV, selObjs, sl])
        · replace h := bif_f hb34 h
          refine AW.skip ?_
          refine AW.seq ?_
          refine AW.reg hS [(2, .pv (.bool true))] [.var [.pv (.str x1), .pv (.int .i64 (IntKind.wrap .i64 (x2 + (r17.length : Int)))), .vec 1 (List.length o29), .vec 2 (List.length l7), .pv (.int .i64 x3), .pv (.int .i64 x27), .pv (.int .i64 x28)], .row 30 4 (List.map Token.pv o29) true, .row 9 1 (List.map PV.str l7) true] ?_ ?_
          · simp -implicitDefEqProofs only [RUNS, qindex, Nat.reduceAdd, Nat.reduceLeDiff, Nat.reduceSub, reduceIte, Nat.reduceEqDiff, Nat.reduceLT, reduceCtorEq, Nat.reduceMul, Nat.reduceBEq, Int.reduceEq, if_true, if_false, eq_self, ne_eq, env_bT, Token.pv_eq]
          refine AW.ret ?_
          cases h
          show finish _ _ _ _ _ = _
          first | rfl | (simp [finish, resOf, renArgs, toPV, selObjs, sl])
    · replace h := bif_f hb25 h
      refine AW.skip ?_
      refine AW.seq ?_
      replace h := Option.bind_eq_some_iff.1 h; obtain ⟨⟨r43, r44, r45, x46, x47, x48⟩, q49, h⟩ := h
      dsimp only at h
      have f50 := c_F36x1 x1 x2 x3 x19 x20 l6 l7 r43 r44 r45 x46 x47 x48 q49
      try dsimp only at f50
      have e51 : ecall O [.var [.pv (.str x1), .pv (.int .i64 x2), .vec 1 (List.length l6), .vec 2 (List.length l7), .pv (.int .i64 x3), .pv (.int .i64 x19), .pv (.int .i64 x20)], .row 30 4 (List.map Token.pv l6) true, .row 9 1 (List.map PV.str l7) true] 36 [.ref 0 0] = some (retAV [.pv (.str r43), .pv (.str r44), .pv (.bool r45)], [.var [.pv (.str x1), .pv (.int .i64 x46), .vec 1 (List.length l6), .vec 2 (List.length l7), .pv (.int .i64 x3), .pv (.int .i64 x47), .pv (.int .i64 x48)], .row 30 4 (List.map Token.pv l6) true, .row 9 1 (List.map PV.str l7) true]) := ecall_eq rfl rfl rfl f50 rfl rfl rfl
      refine AW.reg hS [(0, .ref 0 0), (3, .pv (.int .i64 x2)), (4, .pv (.bool r13)), (6, .pv (.bool r45)), (7, .pv (.str r43)), (8, .pv (.str r44))] [.var [.pv (.str x1), .pv (.int .i64 x46), .vec 1 (List.length l6), .vec 2 (List.length l7), .pv (.int .i64 x3), .pv (.int .i64 x47), .pv (.int .i64 x48)], .row 30 4 (List.map Token.pv l6) true, .row 9 1 (List.map PV.str l7) true] ?_ ?_
      · simp -implicitDefEqProofs only [RUNS, qindex, Nat.reduceAdd, Nat.reduceLeDiff, Nat.reduceSub, reduceIte, Nat.reduceEqDiff, Nat.reduceLT, reduceCtorEq, Nat.reduceMul, Nat.reduceBEq, Int.reduceEq, if_true, if_false, eq_self, ne_eq, env_bT, T_39, Token.pv_eq, pf_36, e51]
      refine AW.seq ?_
      refine AW.cases (r45) (fun hsp5 => ?_) (fun hsp5 => ?_)
      · replace h := bif_t hsp5 h
        replace h := Option.bind_eq_some_iff.1 h; obtain ⟨⟨r52, x53, x54, o55⟩, q56, h⟩ := h
        dsimp only at h
        have f57 := c_F39 (Token.mk 1 x2 r43 r44) r13 x1 x46 x3 x47 x48 l6 l7 r52 x53 x54 o55 q56
        try dsimp only at f57
        have e58 : ecall O [.var [.pv (.str x1), .pv (.int .i64 x46), .vec 1 (List.length l6), .vec 2 (List.length l7), .pv (.int .i64 x3), .pv (.int .i64 x47), .pv (.int .i64 x48)], .row 30 4 (List.map Token.pv l6) true, .row 9 1 (List.map PV.str l7) true] 39 [.ref 0 0, .pv (.agg [.int .i64 1, .int .i64 x2, .str r43, .str r44]), .pv (.bool r13)] = some (retAV [.pv (.bool r52)], [.var [.pv (.str x1), .pv (.int .i64 x46), .vec 1 (List.length o55), .vec 2 (List.length l7), .pv (.int .i64 x3), .pv (.int .i64 x53), .pv (.int .i64 x54)], .row 30 4 (List.map Token.pv o55) true, .row 9 1 (List.map PV.str l7) true]) := ecall_eq rfl rfl rfl f57 rfl rfl rfl
        refine AW.reg hS [(2, .pv (.bool r52))] [.var [.pv (.str x1), .pv (.int .i64 x46), .vec 1 (List.length o55), .vec 2 (List.length l7), .pv (.int .i64 x3), .pv (.int .i64 x53), .pv (.int .i64 x54)], .row 30 4 (List.map Token.pv o55) true, .row 9 1 (List.map PV.str l7) true] ?_ ?_
        · simp -implicitDefEqProofs only [RUNS, qindex, Nat.reduceAdd, Nat.reduceLeDiff, Nat.reduceSub, reduceIte, Nat.reduceEqDiff, Nat.reduceLT, reduceCtorEq, Nat.reduceMul, Nat.reduceBEq, Int.reduceEq, if_true, if_false, eq_self, ne_eq, env_bT, T_4, T_30, T_39, Token.pv_eq, hsp5, ownT_30, pf_39, e58]
        refine AW.ret ?_
        cases h
        show finish _ _ _ _ _ = _
        first | rfl | (simp [finish, resOf, renArgs, toPV, selObjs, sl])
      · replace h := bif_f hsp5 h
        refine AW.reg hS [(2, .pv (.bool false))] [.var [.pv (.str x1), .pv (.int .i64 x46), .vec 1 (List.length l6), .vec 2 (List.length l7), .pv (.int .i64 x3), .pv (.int .i64 x47), .pv (.int .i64 x48)], .row 30 4 (List.map Token.pv l6) true, .row 9 1 (List.map PV.str l7) true] ?_ ?_
        · simp -implicitDefEqProofs only [RUNS, qindex, Nat.reduceAdd, Nat.reduceLeDiff, Nat.reduceSub, reduceIte, Nat.reduceEqDiff, Nat.reduceLT, reduceCtorEq, Nat.reduceMul, Nat.reduceBEq, Int.reduceEq, if_true, if_false, eq_self, ne_eq, env_bT, T_4, T_30, T_39, Token.pv_eq, hsp5]
        refine AW.ret ?_
        cases h
        show finish _ _ _ _ _ = _
        first | rfl | (simp [finish, resOf, renArgs, toPV, selObjs, sl])

set_option maxHeartbeats 4000000 in
theorem g_F10 {O : Orc} (hS : Sound env O) (hpf : O.pf = pfn) (c_F19x2 : C_F19x2 O) (c_F20x2 : C_F20x2 O) (c_L_IndexByte : C_L_IndexByte O) (c_F22x1 : C_F22x1 O) (c_F23 : C_F23 O) (c_F24 : C_F24 O) (c_F25 : C_F25 O) (s1 : Str) (r2 : List Token) (r3 : Int) (r4 : Int) (h : F10 s1 = some (r2, r3, r4)) : Good env 10 [.pv (.str s1)] [] [.pv (.slice (List.map Token.pv r2)), .pv (.int .i64 r3), .pv (.int .i64 r4)] [] := by
  have pf_19 : O.pf 19 = false := by rw [hpf]; rfl
  have pf_20 : O.pf 20 = false := by rw [hpf]; rfl
  have pf_21 : O.pf 21 = true := by rw [hpf]; rfl
  have pf_22 : O.pf 22 = false := by rw [hpf]; rfl
  have pf_23 : O.pf 23 = true := by rw [hpf]; rfl
  have pf_24 : O.pf 24 = false := by rw [hpf]; rfl
  have pf_25 : O.pf 25 = false := by rw [hpf]; rfl
  refine Good.start (fn := Tryd.f10) (N := 94) fn_10 rfl rfl (by simp) [] _ rfl rfl ?_
  rw [F10] at h
  refine AW.seq ?_
  refine AW.reg hS [(0, .pv (.str s1))] [] ?_ ?_
  · simp -implicitDefEqProofs only [RUNS, qindex, Nat.reduceAdd, Nat.reduceLeDiff, Nat.reduceSub, reduceIte, Nat.reduceEqDiff, Nat.reduceLT, reduceCtorEq, Nat.reduceMul, Nat.reduceBEq, Int.reduceEq, if_true, if_false, eq_self, ne_eq, env_bT, Token.pv_eq]
  refine AW.seq ?_
  refine AW.seq ?_
  refine AW.reg hS [(0, .pv (.str s1)), (10, .pv (.bool (decide (65536 < (s1.length : Int)))))] [] ?_ ?_
  · simp -implicitDefEqProofs only [RUNS, qindex, Nat.reduceAdd, Nat.reduceLeDiff, Nat.reduceSub, reduceIte, Nat.reduceEqDiff, Nat.reduceLT, reduceCtorEq, Nat.reduceMul, Nat.reduceBEq, Int.reduceEq, if_true, if_false, eq_self, ne_eq, env_bT, T_3, T_9, Token.pv_eq, eqT_3]
  refine AW.cond (b := decide (65536 < (s1.length : Int))) rfl (fun hb5 => ?_) (fun hb5 => ?_)
  · replace h := bif_t hb5 h
    refine AW.seq ?_
    refine AW.reg hS [(2, .nils), (3, .pv (.int .i64 0)), (4, .pv (.int .i64 4))] [] ?_ ?_
    · simp -implicitDefEqProofs only [RUNS, qindex, Nat.reduceAdd, Nat.reduceLeDiff, Nat.reduceSub, reduceIte, Nat.reduceEqDiff, Nat.reduceLT, reduceCtorEq, Nat.reduceMul, Nat.reduceBEq, Int.reduceEq, if_true, if_false, eq_self, ne_eq, env_bT, Token.pv_eq]
    refine AW.ret ?_
    cases h
    show finish _ _ _ _ _ = _
    first | rfl | (simp [finish, resOf, renArgs, toPV, selObjs, sl])
  · replace h := bif_f hb5 h
    refine AW.skip ?_
    refine AW.seq ?_
    refine AW.after ?_
    refine AW.reg hS [(0, .pv (.str s1)), (5, .ref 0 0)] [.var [.pv (.str s1), .pv (.int .i64 0), .nils, .nils, .pv (.int .i64 0), .pv (.int .i64 0), .pv (.int .i64 0)]] ?_ ?_
    · simp -implicitDefEqProofs only [RUNS, qindex, Nat.reduceAdd, Nat.reduceLeDiff, Nat.reduceSub, reduceIte, Nat.reduceEqDiff, Nat.reduceLT, reduceCtorEq, Nat.reduceMul, Nat.reduceBEq, Int.reduceEq, if_true, if_false, eq_self, ne_eq, env_bT, T_42, Token.pv_eq, ownT_42]
    refine ⟨⟨sl [(0, .pv (.str s1)), (5, .ref 0 0)], 94, [.var [.pv (.str s1), .pv (.int .i64 0), .vec 1 (List.length ([] : List Token)), .vec 2 (List.length ([] : List Str)), .pv (.int .i64 0), .pv (.int .i64 0), .pv (.int .i64 0)], .row 30 4 (List.map Token.pv ([] : List Token)) true, .row 9 1 (List.map PV.str ([] : List Str)) true]⟩, (Weak.trans (Weak.ownC (σ := ⟨sl [(0, .pv (.str s1)), (5, .ref 0 0)], 94, [.var [.pv (.str s1), .pv (.int .i64 0), .nils, .nils, .pv (.int .i64 0), .pv (.int .i64 0), .pv (.int .i64 0)]]⟩) 0 2 30 4 (by decide) (cs := [.pv (.str s1), .pv (.int .i64 0), .nils, .nils, .pv (.int .i64 0), .pv (.int .i64 0), .pv (.int .i64 0)]) rfl rfl) (Weak.trans (Weak.slots (L := [(0, .pv (.str s1)), (5, .ref 0 0)]) ⟨rfl, rfl, trivial⟩) (Weak.trans (Weak.ownC (σ := ⟨sl [(0, .pv (.str s1)), (5, .ref 0 0)], 94, [.var [.pv (.str s1), .pv (.int .i64 0), .vec 1 (List.length ([] : List Token)), .nils, .pv (.int .i64 0), .pv (.int .i64 0), .pv (.int .i64 0)], .row 30 4 (List.map Token.pv ([] : List Token)) true]⟩) 0 3 9 1 (by decide) (cs := [.pv (.str s1), .pv (.int .i64 0), .vec 1 (List.length ([] : List Token)), .nils, .pv (.int .i64 0), .pv (.int .i64 0), .pv (.int .i64 0)]) rfl rfl) (Weak.slots (L := [(0, .pv (.str s1)), (5, .ref 0 0)]) ⟨rfl, rfl, trivial⟩)))), ?_⟩
    refine AW.seq ?_
    refine AW.block ?_
    refine AW.weak (Weak.slots (L := [(0, .pv (.str s1)), (5, .ref 0 0)]) ⟨rfl, rfl, trivial⟩) ?_
    refine AW.loopI (α := Nat × Int × Int × Int × Int × (List Token) × (List Str)) (fun (_, x6, x7, x8, x9, l10, l11) => ⟨sl [(0, .pv (.str s1)), (5, .ref 0 0)], 94, [.var [.pv (.str s1), .pv (.int .i64 x6), .vec 1 (List.length l10), .vec 2 (List.length l11), .pv (.int .i64 x7), .pv (.int .i64 x8), .pv (.int .i64 x9)], .row 30 4 (List.map Token.pv l10) true, .row 9 1 (List.map PV.str l11) true]⟩) (fun x => iter (F10_b1 s1) x.1 x.2 = some (r2, r3, r4)) (fun x => x.1) (BIG, (0, 0, 0, 0, ([] : List Token), ([] : List Str))) h ?_
    clear h
    intro ⟨n65, x6, x7, x8, x9, l10, l11⟩ h
    replace h := iter_some h; obtain ⟨m14, rfl, h⟩ := h
    rw [F10_b1] at h
    try dsimp only at h
    show AW _ _ _ _ ⟨sl [(0, .pv (.str s1)), (5, .ref 0 0)], 94, [.var [.pv (.str s1), .pv (.int .i64 x6), .vec 1 (List.length l10), .vec 2 (List.length l11), .pv (.int .i64 x7), .pv (.int .i64 x8), .pv (.int .i64 x9)], .row 30 4 (List.map Token.pv l10) true, .row 9 1 (List.map PV.str l11) true]⟩
    refine AW.seq ?_
    refine AW.seq ?_
    refine AW.reg hS [(0, .pv (.str s1)), (5, .ref 0 0), (18, .pv (.bool (decide (x9 = 0))))] [.var [.pv (.str s1), .pv (.int .i64 x6), .vec 1 (List.length l10), .vec 2 (List.length l11), .pv (.int .i64 x7), .pv (.int .i64 x8), .pv (.int .i64 x9)], .row 30 4 (List.map Token.pv l10) true, .row 9 1 (List.map PV.str l11) true] ?_ ?_
    · simp -implicitDefEqProofs only [RUNS, qindex, Nat.reduceAdd, Nat.reduceLeDiff, Nat.reduceSub, reduceIte, Nat.reduceEqDiff, Nat.reduceLT, reduceCtorEq, Nat.reduceMul, Nat.reduceBEq, Int.reduceEq, if_true, if_false, eq_self, ne_eq, env_bT, T_25, T_42, Token.pv_eq, eqT_25]
    refine AW.cond (b := decide (x9 = 0)) rfl (fun hb15 => ?_) (fun hb15 => ?_)
    · replace h := bif_t hb15 h
      refine AW.skip ?_
      refine AW.block ?_
      refine AW.seq ?_
      refine AW.reg hS [(0, .pv (.str s1)), (5, .ref 0 0)] [.var [.pv (.str s1), .pv (.int .i64 x6), .vec 1 (List.length l10), .vec 2 (List.length l11), .pv (.int .i64 x6), .pv (.int .i64 x8), .pv (.int .i64 x9)], .row 30 4 (List.map Token.pv l10) true, .row 9 1 (List.map PV.str l11) true] ?_ ?_
      · simp -implicitDefEqProofs only [RUNS, qindex, Nat.reduceAdd, Nat.reduceLeDiff, Nat.reduceSub, reduceIte, Nat.reduceEqDiff, Nat.reduceLT, reduceCtorEq, Nat.reduceMul, Nat.reduceBEq, Int.reduceEq, if_true, if_false, eq_self, ne_eq, env_bT, T_3, T_42, Token.pv_eq]
      refine AW.seq ?_
      replace h := Option.bind_eq_some_iff.1 h; obtain ⟨x16, q17, h⟩ := h
      have f18 := c_F19x2 s1 x6 x6 x8 x9 l10 l11 x16 q17
      try dsimp only at f18
      have e19 : ecall O [.var [.pv (.str s1), .pv (.int .i64 x6), .vec 1 (List.length l10), .vec 2 (List.length l11), .pv (.int .i64 x6), .pv (.int .i64 x8), .pv (.int .i64 x9)], .row 30 4 (List.map Token.pv l10) true, .row 9 1 (List.map PV.str l11) true] 19 [.ref 0 0] = some (retAV [], [.var [.pv (.str s1), .pv (.int .i64 x16), .vec 1 (List.length l10), .vec 2 (List.length l11), .pv (.int .i64 x6), .pv (.int .i64 x8), .pv (.int .i64 x9)], .row 30 4 (List.map Token.pv l10) true, .row 9 1 (List.map PV.str l11) true]) := ecall_eq rfl rfl rfl f18 rfl rfl rfl
      refine AW.reg hS [(0, .pv (.str s1)), (5, .ref 0 0)] [.var [.pv (.str s1), .pv (.int .i64 x16), .vec 1 (List.length l10), .vec 2 (List.length l11), .pv (.int .i64 x6), .pv (.int .i64 x8), .pv (.int .i64 x9)], .row 30 4 (List.map Token.pv l10) true, .row 9 1 (List.map PV.str l11) true] ?_ ?_
      · simp -implicitDefEqProofs only [RUNS, qindex, Nat.reduceAdd, Nat.reduceLeDiff, Nat.reduceSub, reduceIte, Nat.reduceEqDiff, Nat.reduceLT, reduceCtorEq, Nat.reduceMul, Nat.reduceBEq, Int.reduceEq, if_true, if_false, eq_self, ne_eq, env_bT, T_39, Token.pv_eq, pf_19, e19]
      refine AW.seq ?_
      replace h := Option.bind_eq_some_iff.1 h; obtain ⟨r20, q21, h⟩ := h
      have f22 := c_F20x2 s1 x16 x6 x8 x9 l10 l11 r20 q21
      try dsimp only at f22
      have e23 : ecall O [.var [.pv (.str s1), .pv (.int .i64 x16), .vec 1 (List.length l10), .vec 2 (List.length l11), .pv (.int .i64 x6), .pv (.int .i64 x8), .pv (.int .i64 x9)], .row 30 4 (List.map Token.pv l10) true, .row 9 1 (List.map PV.str l11) true] 20 [.ref 0 0] = some (retAV [.pv (.str r20)], [.var [.pv (.str s1), .pv (.int .i64 x16), .vec 1 (List.length l10), .vec 2 (List.length l11), .pv (.int .i64 x6), .pv (.int .i64 x8), .pv (.int .i64 x9)], .row 30 4 (List.map Token.pv l10) true, .row 9 1 (List.map PV.str l11) true]) := ecall_eq rfl rfl rfl f22 rfl rfl rfl
      refine AW.reg hS [(0, .pv (.str s1)), (5, .ref 0 0), (6, .pv (.str r20))] [.var [.pv (.str s1), .pv (.int .i64 x16), .vec 1 (List.length l10), .vec 2 (List.length l11), .pv (.int .i64 x6), .pv (.int .i64 x8), .pv (.int .i64 x9)], .row 30 4 (List.map Token.pv l10) true, .row 9 1 (List.map PV.str l11) true] ?_ ?_
      · simp -implicitDefEqProofs only [RUNS, qindex, Nat.reduceAdd, Nat.reduceLeDiff, Nat.reduceSub, reduceIte, Nat.reduceEqDiff, Nat.reduceLT, reduceCtorEq, Nat.reduceMul, Nat.reduceBEq, Int.reduceEq, if_true, if_false, eq_self, ne_eq, env_bT, T_39, Token.pv_eq, pf_20, e23]
      refine AW.block ?_
      refine AW.seq ?_
      refine AW.reg hS [(0, .pv (.str s1)), (5, .ref 0 0), (6, .pv (.str r20)), (32, .pv (.bool (decide (r20 = []))))] [.var [.pv (.str s1), .pv (.int .i64 x16), .vec 1 (List.length l10), .vec 2 (List.length l11), .pv (.int .i64 x6), .pv (.int .i64 x8), .pv (.int .i64 x9)], .row 30 4 (List.map Token.pv l10) true, .row 9 1 (List.map PV.str l11) true] ?_ ?_
      · simp -implicitDefEqProofs only [RUNS, qindex, Nat.reduceAdd, Nat.reduceLeDiff, Nat.reduceSub, reduceIte, Nat.reduceEqDiff, Nat.reduceLT, reduceCtorEq, Nat.reduceMul, Nat.reduceBEq, Int.reduceEq, if_true, if_false, eq_self, ne_eq, env_bT, T_9, Token.pv_eq, eqT_9]
      refine AW.cond (b := decide (r20 = [])) rfl (fun hb24 => ?_) (fun hb24 => ?_)
      · replace h := bif_t hb24 h
        refine AW.seq ?_
        refine AW.seq ?_
        refine AW.reg hS [(0, .pv (.str s1)), (5, .ref 0 0), (40, .pv (.bool (decide (0 < (l11.length : Int)))))] [.var [.pv (.str s1), .pv (.int .i64 x16), .vec 1 (List.length l10), .vec 2 (List.length l11), .pv (.int .i64 x6), .pv (.int .i64 x8), .pv (.int .i64 x9)], .row 30 4 (List.map Token.pv l10) true, .row 9 1 (List.map PV.str l11) true] ?_ ?_
        · simp -implicitDefEqProofs only [RUNS, qindex, Nat.reduceAdd, Nat.reduceLeDiff, Nat.reduceSub, reduceIte, Nat.reduceEqDiff, Nat.reduceLT, reduceCtorEq, Nat.reduceMul, Nat.reduceBEq, Int.reduceEq, if_true, if_false, eq_self, ne_eq, env_bT, T_3, T_9, T_40, T_42, Token.pv_eq, eqT_3]
        refine AW.cond (b := decide (0 < (l11.length : Int))) rfl (fun hb25 => ?_) (fun hb25 => ?_)
        · replace h := bif_t hb25 h
          refine AW.seq ?_
          refine AW.reg hS [(2, .nils), (3, .pv (.int .i64 (s1.length : Int))), (4, .pv (.int .i64 3))] [.var [.pv (.str s1), .pv (.int .i64 x16), .vec 1 (List.length l10), .vec 2 (List.length l11), .pv (.int .i64 x6), .pv (.int .i64 x8), .pv (.int .i64 x9)], .row 30 4 (List.map Token.pv l10) true, .row 9 1 (List.map PV.str l11) true] ?_ ?_
          · simp -implicitDefEqProofs only [RUNS, qindex, Nat.reduceAdd, Nat.reduceLeDiff, Nat.reduceSub, reduceIte, Nat.reduceEqDiff, Nat.reduceLT, reduceCtorEq, Nat.reduceMul, Nat.reduceBEq, Int.reduceEq, if_true, if_false, eq_self, ne_eq, env_bT, T_9, Token.pv_eq]
          refine AW.ret ?_
          cases h
          show finish _ _ _ _ _ = _
          first | rfl | (simp [finish, resOf, renArgs, toPV, selObjs, sl])
        · replace h := bif_f hb25 h
          refine AW.skip ?_
          refine AW.seq ?_
          refine AW.reg hS [(2, .vec 1 (List.length l10)), (3, .pv (.int .i64 0)), (4, .pv (.int .i64 0))] [.var [.pv (.str s1), .pv (.int .i64 x16), .vec 1 (List.length l10), .vec 2 (List.length l11), .pv (.int .i64 x6), .pv (.int .i64 x8), .pv (.int .i64 x9)], .row 30 4 (List.map Token.pv l10) true, .row 9 1 (List.map PV.str l11) true] ?_ ?_
          · simp -implicitDefEqProofs only [RUNS, qindex, Nat.reduceAdd, Nat.reduceLeDiff, Nat.reduceSub, reduceIte, Nat.reduceEqDiff, Nat.reduceLT, reduceCtorEq, Nat.reduceMul, Nat.reduceBEq, Int.reduceEq, if_true, if_false, eq_self, ne_eq, env_bT, T_24, T_30, T_42, Token.pv_eq]
          refine AW.ret ?_
          cases h
          show finish _ _ _ _ _ = _
          first | rfl | (simp [finish, resOf, renArgs, toPV, selObjs, sl])
      · replace h := bif_f hb24 h
        refine AW.seq ?_
        replace h := Option.bind_eq_some_iff.1 h; obtain ⟨c26, q27, h⟩ := h
        have f28 := sidx_f q27
        refine AW.reg hS [(0, .pv (.str s1)), (5, .ref 0 0), (6, .pv (.str r20)), (47, .pv (.bool (decide (c26 = 35))))] [.var [.pv (.str s1), .pv (.int .i64 x16), .vec 1 (List.length l10), .vec 2 (List.length l11), .pv (.int .i64 x6), .pv (.int .i64 x8), .pv (.int .i64 x9)], .row 30 4 (List.map Token.pv l10) true, .row 9 1 (List.map PV.str l11) true] ?_ ?_
        · simp -implicitDefEqProofs only [RUNS, qindex, Nat.reduceAdd, Nat.reduceLeDiff, Nat.reduceSub, reduceIte, Nat.reduceEqDiff, Nat.reduceLT, reduceCtorEq, Nat.reduceMul, Nat.reduceBEq, Int.reduceEq, if_true, if_false, eq_self, ne_eq, env_bT, T_5, T_9, Token.pv_eq, f28.1, f28.2.1, f28.2.2, eqT_5]
        refine AW.cond (b := decide (c26 = 35)) rfl (fun hb29 => ?_) (fun hb29 => ?_)
        · replace h := bif_t hb29 h
          refine AW.seq ?_
          refine AW.reg hS [(0, .pv (.str s1)), (5, .ref 0 0), (6, .pv (.str r20))] [.var [.pv (.str s1), .pv (.int .i64 (IntKind.wrap .i64 (x16 + (r20.length : Int)))), .vec 1 (List.length l10), .vec 2 (List.length l11), .pv (.int .i64 x6), .pv (.int .i64 x8), .pv (.int .i64 x9)], .row 30 4 (List.map Token.pv l10) true, .row 9 1 (List.map PV.str l11) true] ?_ ?_
          · simp -implicitDefEqProofs only [RUNS, qindex, Nat.reduceAdd, Nat.reduceLeDiff, Nat.reduceSub, reduceIte, Nat.reduceEqDiff, Nat.reduceLT, reduceCtorEq, Nat.reduceMul, Nat.reduceBEq, Int.reduceEq, if_true, if_false, eq_self, ne_eq, env_bT, T_3, T_9, T_42, Token.pv_eq, eqT_3]
          refine AW.seq ?_
          replace h := Option.bind_eq_some_iff.1 h; obtain ⟨n30, q31, h⟩ := h
          have f32 := c_L_IndexByte r20 10 n30 q31
          try dsimp only at f32
          refine AW.reg hS [(0, .pv (.str s1)), (5, .ref 0 0), (6, .pv (.str r20)), (7, .pv (.int .i64 n30))] [.var [.pv (.str s1), .pv (.int .i64 (IntKind.wrap .i64 (x16 + (r20.length : Int)))), .vec 1 (List.length l10), .vec 2 (List.length l11), .pv (.int .i64 x6), .pv (.int .i64 x8), .pv (.int .i64 x9)], .row 30 4 (List.map Token.pv l10) true, .row 9 1 (List.map PV.str l11) true] ?_ ?_
          · simp -implicitDefEqProofs only [RUNS, qindex, Nat.reduceAdd, Nat.reduceLeDiff, Nat.reduceSub, reduceIte, Nat.reduceEqDiff, Nat.reduceLT, reduceCtorEq, Nat.reduceMul, Nat.reduceBEq, Int.reduceEq, if_true, if_false, eq_self, ne_eq, env_bT, T_5, T_9, Token.pv_eq, pf_21, f32]
          refine AW.seq ?_
          refine AW.reg hS [(0, .pv (.str s1)), (5, .ref 0 0), (6, .pv (.str r20)), (7, .pv (.int .i64 n30)), (63, .pv (.bool (decide (0 ≤ n30))))] [.var [.pv (.str s1), .pv (.int .i64 (IntKind.wrap .i64 (x16 + (r20.length : Int)))), .vec 1 (List.length l10), .vec 2 (List.length l11), .pv (.int .i64 x6), .pv (.int .i64 x8), .pv (.int .i64 x9)], .row 30 4 (List.map Token.pv l10) true, .row 9 1 (List.map PV.str l11) true] ?_ ?_
          · simp -implicitDefEqProofs only [RUNS, qindex, Nat.reduceAdd, Nat.reduceLeDiff, Nat.reduceSub, reduceIte, Nat.reduceEqDiff, Nat.reduceLT, reduceCtorEq, Nat.reduceMul, Nat.reduceBEq, Int.reduceEq, if_true, if_false, eq_self, ne_eq, env_bT, T_3, Token.pv_eq, eqT_3]
          refine AW.cond (b := decide (0 ≤ n30)) rfl (fun hb33 => ?_) (fun hb33 => ?_)
          · replace h := bif_t hb33 h
            refine AW.reg hS [(0, .pv (.str s1)), (5, .ref 0 0)] [.var [.pv (.str s1), .pv (.int .i64 (IntKind.wrap .i64 ((IntKind.wrap .i64 (x16 + (r20.length : Int))) + (IntKind.wrap .i64 (n30 - (r20.length : Int)))))), .vec 1 (List.length l10), .vec 2 (List.length l11), .pv (.int .i64 x6), .pv (.int .i64 x8), .pv (.int .i64 x9)], .row 30 4 (List.map Token.pv l10) true, .row 9 1 (List.map PV.str l11) true] ?_ ?_
            · simp -implicitDefEqProofs only [RUNS, qindex, Nat.reduceAdd, Nat.reduceLeDiff, Nat.reduceSub, reduceIte, Nat.reduceEqDiff, Nat.reduceLT, reduceCtorEq, Nat.reduceMul, Nat.reduceBEq, Int.reduceEq, if_true, if_false, eq_self, ne_eq, env_bT, T_3, T_9, T_42, Token.pv_eq, eqT_3]
            exact ⟨(m14, (IntKind.wrap .i64 ((IntKind.wrap .i64 (x16 + (r20.length : Int))) + (IntKind.wrap .i64 (n30 - (r20.length : Int)))), x6, x8, x9, l10, l11)), h, (Weak.norm (m := 3) (Nat.le_of_ble_eq_true rfl) ⟨rfl, rfl, trivial⟩ rfl rfl rfl), Nat.lt_succ_self _⟩
          · replace h := bif_f hb33 h
            refine AW.skip ?_
            exact ⟨(m14, (IntKind.wrap .i64 (x16 + (r20.length : Int)), x6, x8, x9, l10, l11)), h, (Weak.norm (m := 3) (Nat.le_of_ble_eq_true rfl) ⟨rfl, rfl, trivial⟩ rfl rfl rfl), Nat.lt_succ_self _⟩
        · replace h := bif_f hb29 h
          refine AW.seq ?_
          refine AW.reg hS [(0, .pv (.str s1)), (5, .ref 0 0), (6, .pv (.str r20)), (75, .pv (.bool (decide (c26 = 10))))] [.var [.pv (.str s1), .pv (.int .i64 x16), .vec 1 (List.length l10), .vec 2 (List.length l11), .pv (.int .i64 x6), .pv (.int .i64 x8), .pv (.int .i64 x9)], .row 30 4 (List.map Token.pv l10) true, .row 9 1 (List.map PV.str l11) true] ?_ ?_
          · simp -implicitDefEqProofs only [RUNS, qindex, Nat.reduceAdd, Nat.reduceLeDiff, Nat.reduceSub, reduceIte, Nat.reduceEqDiff, Nat.reduceLT, reduceCtorEq, Nat.reduceMul, Nat.reduceBEq, Int.reduceEq, if_true, if_false, eq_self, ne_eq, env_bT, T_5, T_9, Token.pv_eq, f28.1, f28.2.1, f28.2.2, eqT_5]
          refine AW.cond (b := decide (c26 = 10)) rfl (fun hb34 => ?_) (fun hb34 => ?_)
          · replace h := bif_t hb34 h
            replace h := Option.bind_eq_some_iff.1 h; obtain ⟨⟨tag35, r36, x37, x38, x39, o40⟩, q41, h⟩ := h
            dsimp only at h
            refine AW.cases (tag35) (fun hsp8 => ?_) (fun hsp8 => ?_)
            · subst hsp8
              replace h := bif_t rfl h
              have f42 := c_F22x1 s1 x16 x6 x8 x9 l10 l11 true r36 x37 x38 x39 o40 q41
              try dsimp only at f42
              simp only [cond_true, cond_false] at f42
              have e43 : ecall O [.var [.pv (.str s1), .pv (.int .i64 x16), .vec 1 (List.length l10), .vec 2 (List.length l11), .pv (.int .i64 x6), .pv (.int .i64 x8), .pv (.int .i64 x9)], .row 30 4 (List.map Token.pv l10) true, .row 9 1 (List.map PV.str l11) true] 22 [.ref 0 0] = some (retAV [.pv (.bool r36)], [.var [.pv (.str s1), .pv (.int .i64 x37), .vec 1 (List.length o40), .nils, .pv (.int .i64 x6), .pv (.int .i64 x38), .pv (.int .i64 x39)], .row 30 4 (List.map Token.pv o40) true, .row 9 1 (List.map PV.str l11) true]) := ecall_eq rfl rfl rfl f42 rfl rfl rfl
              refine AW.after ?_
              refine AW.reg hS [(0, .pv (.str s1)), (5, .ref 0 0)] [.var [.pv (.str s1), .pv (.int .i64 x37), .vec 1 (List.length o40), .nils, .pv (.int .i64 x6), .pv (.int .i64 x38), .pv (.int .i64 x39)], .row 30 4 (List.map Token.pv o40) true, .row 9 1 (List.map PV.str l11) true] ?_ ?_
              · simp -implicitDefEqProofs only [RUNS, qindex, Nat.reduceAdd, Nat.reduceLeDiff, Nat.reduceSub, reduceIte, Nat.reduceEqDiff, Nat.reduceLT, reduceCtorEq, Nat.reduceMul, Nat.reduceBEq, Int.reduceEq, if_true, if_false, eq_self, ne_eq, env_bT, T_39, Token.pv_eq, pf_22, e43]
              refine ⟨⟨sl [(0, .pv (.str s1)), (5, .ref 0 0)], 94, [.var [.pv (.str s1), .pv (.int .i64 x37), .vec 1 (List.length o40), .vec 3 (List.length ([] : List Str)), .pv (.int .i64 x6), .pv (.int .i64 x38), .pv (.int .i64 x39)], .row 30 4 (List.map Token.pv o40) true, .row 9 1 (List.map PV.str l11) true, .row 9 1 (List.map PV.str ([] : List Str)) true]⟩, (Weak.trans (Weak.ownC (σ := ⟨sl [(0, .pv (.str s1)), (5, .ref 0 0)], 94, [.var [.pv (.str s1), .pv (.int .i64 x37), .vec 1 (List.length o40), .nils, .pv (.int .i64 x6), .pv (.int .i64 x38), .pv (.int .i64 x39)], .row 30 4 (List.map Token.pv o40) true, .row 9 1 (List.map PV.str l11) true]⟩) 0 3 9 1 (by decide) (cs := [.pv (.str s1), .pv (.int .i64 x37), .vec 1 (List.length o40), .nils, .pv (.int .i64 x6), .pv (.int .i64 x38), .pv (.int .i64 x39)]) rfl rfl) (Weak.slots (L := [(0, .pv (.str s1)), (5, .ref 0 0)]) ⟨rfl, rfl, trivial⟩)), ?_⟩
              exact ⟨(m14, (x37, x6, x38, x39, o40, ([] : List Str))), h, (Weak.sel [0, 1, 3] (L := [(0, .pv (.str s1)), (5, .ref 0 0)]) ⟨rfl, rfl, trivial⟩ (by decide) rfl rfl), Nat.lt_succ_self _⟩
            · subst hsp8
              replace h := bif_f rfl h
              have f42 := c_F22x1 s1 x16 x6 x8 x9 l10 l11 false r36 x37 x38 x39 o40 q41
              try dsimp only at f42
              simp only [cond_true, cond_false] at f42
              have e43 : ecall O [.var [.pv (.str s1), .pv (.int .i64 x16), .vec 1 (List.length l10), .vec 2 (List.length l11), .pv (.int .i64 x6), .pv (.int .i64 x8), .pv (.int .i64 x9)], .row 30 4 (List.map Token.pv l10) true, .row 9 1 (List.map PV.str l11) true] 22 [.ref 0 0] = some (retAV [.pv (.bool r36)], [.var [.pv (.str s1), .pv (.int .i64 x37), .vec 1 (List.length o40), .vec 2 (List.length l11), .pv (.int .i64 x6), .pv (.int .i64 x38), .pv (.int .i64 x39)], .row 30 4 (List.map Token.pv o40) true, .row 9 1 (List.map PV.str l11) true]) := ecall_eq rfl rfl rfl f42 rfl rfl rfl
              refine AW.reg hS [(0, .pv (.str s1)), (5, .ref 0 0)] [.var [.pv (.str s1), .pv (.int .i64 x37), .vec 1 (List.length o40), .vec 2 (List.length l11), .pv (.int .i64 x6), .pv (.int .i64 x38), .pv (.int .i64 x39)], .row 30 4 (List.map Token.pv o40) true, .row 9 1 (List.map PV.str l11) true] ?_ ?_
              · simp -implicitDefEqProofs only [RUNS, qindex, Nat.reduceAdd, Nat.reduceLeDiff, Nat.reduceSub, reduceIte, Nat.reduceEqDiff, Nat.reduceLT, reduceCtorEq, Nat.reduceMul, Nat.reduceBEq, Int.reduceEq, if_true, if_false, eq_self, ne_eq, env_bT, T_39, Token.pv_eq, pf_22, e43]
              exact ⟨(m14, (x37, x6, x38, x39, o40, l11)), h, (Weak.norm (m := 3) (Nat.le_of_ble_eq_true rfl) ⟨rfl, rfl, trivial⟩ rfl rfl rfl), Nat.lt_succ_self _⟩
          · replace h := bif_f hb34 h
            refine AW.seq ?_
            replace h := Option.bind_eq_some_iff.1 h; obtain ⟨r44, q45, h⟩ := h
            have f46 := c_F23 r20 [60, 60] r44 q45
            try dsimp only at f46
            try simp only [List.map_cons, List.map_nil, Token.pv_eq] at f46
            refine AW.reg hS [(0, .pv (.str s1)), (5, .ref 0 0), (81, .pv (.bool r44))] [.var [.pv (.str s1), .pv (.int .i64 x16), .vec 1 (List.length l10), .vec 2 (List.length l11), .pv (.int .i64 x6), .pv (.int .i64 x8), .pv (.int .i64 x9)], .row 30 4 (List.map Token.pv l10) true, .row 9 1 (List.map PV.str l11) true] ?_ ?_
            · simp -implicitDefEqProofs only [RUNS, qindex, Nat.reduceAdd, Nat.reduceLeDiff, Nat.reduceSub, reduceIte, Nat.reduceEqDiff, Nat.reduceLT, reduceCtorEq, Nat.reduceMul, Nat.reduceBEq, Int.reduceEq, if_true, if_false, eq_self, ne_eq, env_bT, T_9, Token.pv_eq, pf_23, f46]
            refine AW.cond (b := r44) rfl (fun hb47 => ?_) (fun hb47 => ?_)
            · replace h := bif_t hb47 h
              replace h := Option.bind_eq_some_iff.1 h; obtain ⟨⟨r48, x49, x50, x51, o52, o53⟩, q54, h⟩ := h
              dsimp only at h
              have f55 := c_F24 s1 x16 x6 x8 x9 l10 l11 r48 x49 x50 x51 o52 o53 q54
              try dsimp only at f55
              have e56 : ecall O [.var [.pv (.str s1), .pv (.int .i64 x16), .vec 1 (List.length l10), .vec 2 (List.length l11), .pv (.int .i64 x6), .pv (.int .i64 x8), .pv (.int .i64 x9)], .row 30 4 (List.map Token.pv l10) true, .row 9 1 (List.map PV.str l11) true] 24 [.ref 0 0] = some (retAV [.pv (.bool r48)], [.var [.pv (.str s1), .pv (.int .i64 x49), .vec 1 (List.length o52), .vec 2 (List.length o53), .pv (.int .i64 x6), .pv (.int .i64 x50), .pv (.int .i64 x51)], .row 30 4 (List.map Token.pv o52) true, .row 9 1 (List.map PV.str o53) true]) := ecall_eq rfl rfl rfl f55 rfl rfl rfl
              refine AW.reg hS [(0, .pv (.str s1)), (5, .ref 0 0)] [.var [.pv (.str s1), .pv (.int .i64 x49), .vec 1 (List.length o52), .vec 2 (List.length o53), .pv (.int .i64 x6), .pv (.int .i64 x50), .pv (.int .i64 x51)], .row 30 4 (List.map Token.pv o52) true, .row 9 1 (List.map PV.str o53) true] ?_ ?_
              · simp -implicitDefEqProofs only [RUNS, qindex, Nat.reduceAdd, Nat.reduceLeDiff, Nat.reduceSub, reduceIte, Nat.reduceEqDiff, Nat.reduceLT, reduceCtorEq, Nat.reduceMul, Nat.reduceBEq, Int.reduceEq, if_true, if_false, eq_self, ne_eq, env_bT, T_39, Token.pv_eq, pf_24, e56]
              exact ⟨(m14, (x49, x6, x50, x51, o52, o53)), h, (Weak.norm (m := 3) (Nat.le_of_ble_eq_true rfl) ⟨rfl, rfl, trivial⟩ rfl rfl rfl), Nat.lt_succ_self _⟩
            · replace h := bif_f hb47 h
              replace h := Option.bind_eq_some_iff.1 h; obtain ⟨⟨r57, x58, x59, x60, o61⟩, q62, h⟩ := h
              dsimp only at h
              have f63 := c_F25 s1 x16 x6 x8 x9 l10 l11 r57 x58 x59 x60 o61 q62
              try dsimp only at f63
              have e64 : ecall O [.var [.pv (.str s1), .pv (.int .i64 x16), .vec 1 (List.length l10), .vec 2 (List.length l11), .pv (.int .i64 x6), .pv (.int .i64 x8), .pv (.int .i64 x9)], .row 30 4 (List.map Token.pv l10) true, .row 9 1 (List.map PV.str l11) true] 25 [.ref 0 0] = some (retAV [.pv (.bool r57)], [.var [.pv (.str s1), .pv (.int .i64 x58), .vec 1 (List.length o61), .vec 2 (List.length l11), .pv (.int .i64 x6), .pv (.int .i64 x59), .pv (.int .i64 x60)], .row 30 4 (List.map Token.pv o61) true, .row 9 1 (List.map PV.str l11) true]) := ecall_eq rfl rfl rfl f63 rfl rfl rfl
              refine AW.reg hS [(0, .pv (.str s1)), (5, .ref 0 0)] [.var [.pv (.str s1), .pv (.int .i64 x58), .vec 1 (List.length o61), .vec 2 (List.length l11), .pv (.int .i64 x6), .pv (.int .i64 x59), .pv (.int .i64 x60)], .row 30 4 (List.map Token.pv o61) true, .row 9 1 (List.map PV.str l11) true] ?_ ?_
              · simp -implicitDefEqProofs only [RUNS, qindex, Nat.reduceAdd, Nat.reduceLeDiff, Nat.reduceSub, reduceIte, Nat.reduceEqDiff, Nat.reduceLT, reduceCtorEq, Nat.reduceMul, Nat.reduceBEq, Int.reduceEq, if_true, if_false, eq_self, ne_eq, env_bT, T_39, Token.pv_eq, pf_25, e64]
              exact ⟨(m14, (x58, x6, x59, x60, o61, l11)), h, (Weak.norm (m := 3) (Nat.le_of_ble_eq_true rfl) ⟨rfl, rfl, trivial⟩ rfl rfl rfl), Nat.lt_succ_self _⟩
    · replace h := bif_f hb15 h
      refine AW.exit ?_
      refine AW.seq ?_
      refine AW.dreg mixed hS (hpf ▸ (by kernel_rfl : orderOK pfn _ = true)) [(2, .nils), (3, .pv (.int .i64 x8)), (4, .pv (.int .i64 x9))] [.var [.pv (.str s1), .pv (.int .i64 x6), .vec 1 (List.length l10), .vec 2 (List.length l11), .pv (.int .i64 x7), .pv (.int .i64 x8), .pv (.int .i64 x9)], .row 30 4 (List.map Token.pv l10) true, .row 9 1 (List.map PV.str l11) true] ?_ ?_
      · simp -implicitDefEqProofs only [RUNS, qindex, Nat.reduceAdd, Nat.reduceLeDiff, Nat.reduceSub, reduceIte, Nat.reduceEqDiff, Nat.reduceLT, reduceCtorEq, Nat.reduceMul, Nat.reduceBEq, Int.reduceEq, if_true, if_false, eq_self, ne_eq, env_bT, T_3, T_25, T_42, Token.pv_eq]
      refine AW.ret ?_
      cases h
      show finish _ _ _ _ _ = _
      first | rfl | (simp [finish, resOf, renArgs, toPV, selObjs, sl])

set_option maxHeartbeats 4000000 in
theorem g_F12 {O : Orc} (hS : Sound env O) (hpf : O.pf = pfn) (c_L_IndexByte : C_L_IndexByte O) (s1 : Str) (r2 : Bool) (h : F12 s1 = some r2) : Good env 12 [.pv (.str s1)] [] [.pv (.bool r2)] [] := by
  have pf_21 : O.pf 21 = true := by rw [hpf]; rfl
  refine Good.start (fn := Tryd.f12) (N := 22) fn_12 rfl rfl (by simp) [] _ rfl rfl ?_
  rw [F12] at h
  refine AW.seq ?_
  refine AW.reg hS [(0, .pv (.str s1))] [] ?_ ?_
  · simp -implicitDefEqProofs only [RUNS, qindex, Nat.reduceAdd, Nat.reduceLeDiff, Nat.reduceSub, reduceIte, Nat.reduceEqDiff, Nat.reduceLT, reduceCtorEq, Nat.reduceMul, Nat.reduceBEq, Int.reduceEq, if_true, if_false, eq_self, ne_eq, env_bT, Token.pv_eq]
  refine AW.seq ?_
  refine AW.seq ?_
  replace h := Option.bind_eq_some_iff.1 h; obtain ⟨c3, q4, h⟩ := h
  have f5 := sidx_g (guardO_t q4)
  replace h := Option.bind_eq_some_iff.1 h; obtain ⟨n6, q7, h⟩ := h
  have f8 := fun hg => c_L_IndexByte [35, 33, 64] c3 n6 (guardO_t q7 hg)
  try dsimp only at f8
  try simp only [List.map_cons, List.map_nil, Token.pv_eq] at f8
  refine AW.reg hS [(0, .pv (.str s1)), (11, .pv (.bool (decide (s1 = []) || decide (0 ≤ n6))))] [] ?_ ?_
  · clear h
    (simp -implicitDefEqProofs only [RUNS, qindex, Nat.reduceAdd, Nat.reduceLeDiff, Nat.reduceSub, reduceIte, Nat.reduceEqDiff, Nat.reduceLT, reduceCtorEq, Nat.reduceMul, Nat.reduceBEq, Int.reduceEq, if_true, if_false, eq_self, ne_eq, env_bT, T_3, T_5, T_9, Token.pv_eq, eqT_9, f5.1, f5.2.1, f5.2.2, pf_21, f8, eqT_3]); repeat' (split <;> rename_i hb <;> (try simp only [HBS, ge_iff_le, gt_iff_lt] at hb) <;> simp -implicitDefEqProofs only [RUNS, qindex, Nat.reduceAdd, Nat.reduceLeDiff, Nat.reduceSub, reduceIte, Nat.reduceEqDiff, Nat.reduceLT, reduceCtorEq, Nat.reduceMul, Nat.reduceBEq, Int.reduceEq, if_true, if_false, eq_self, ne_eq, env_bT, T_3, T_5, T_9, Token.pv_eq, eqT_9, f5.1, f5.2.1, f5.2.2, pf_21, f8, eqT_3, *, decide_true, decide_false, Decidable.not_not, not_false_eq_true, not_true_eq_false])
    all_goals (first | (simp only [BOOLS]; done) | (simp [*]; done) | ((try simp only [CLOS, beq_iff_eq, bne_iff_ne, ne_eq] at *) <;> omega) | (simp_all; done) | (simp_all <;> omega))
  refine AW.cond (b := (decide (s1 = []) || decide (0 ≤ n6))) rfl (fun hb9 => ?_) (fun hb9 => ?_)
  · replace h := bif_t hb9 h
    refine AW.seq ?_
    refine AW.reg hS [(2, .pv (.bool false))] [] ?_ ?_
    · simp -implicitDefEqProofs only [RUNS, qindex, Nat.reduceAdd, Nat.reduceLeDiff, Nat.reduceSub, reduceIte, Nat.reduceEqDiff, Nat.reduceLT, reduceCtorEq, Nat.reduceMul, Nat.reduceBEq, Int.reduceEq, if_true, if_false, eq_self, ne_eq, env_bT, Token.pv_eq]
    refine AW.ret ?_
    cases h
    show finish _ _ _ _ _ = _
    first | rfl | (simp [finish, resOf, renArgs, toPV, selObjs, sl])
  · replace h := bif_f hb9 h
    refine AW.skip ?_
    refine AW.seq ?_
    refine AW.seq ?_
    refine AW.reg hS [(0, .pv (.str s1)), (13, .ref 0 0)] [.iter s1 0] ?_ ?_
    · simp -implicitDefEqProofs only [RUNS, qindex, Nat.reduceAdd, Nat.reduceLeDiff, Nat.reduceSub, reduceIte, Nat.reduceEqDiff, Nat.reduceLT, reduceCtorEq, Nat.reduceMul, Nat.reduceBEq, Int.reduceEq, if_true, if_false, eq_self, ne_eq, env_bT, Token.pv_eq, erange_str T_9]
    refine AW.block ?_
    refine AW.weak (Weak.slots (L := [(0, .pv (.str s1)), (13, .ref 0 0)]) ⟨rfl, rfl, trivial⟩) ?_
    refine AW.loopI (α := Nat × Nat) (fun (_, p10) => ⟨sl [(0, .pv (.str s1)), (13, .ref 0 0)], 22, [.iter s1 p10]⟩) (fun x => iter (F12_b1 s1) x.1 x.2 = some r2) (fun x => x.1) (BIG, 0) h ?_
    clear h
    intro ⟨n23, p10⟩ h
    replace h := iter_some h; obtain ⟨m13, rfl, h⟩ := h
    rw [F12_b1] at h
    try dsimp only at h
    show AW _ _ _ _ ⟨sl [(0, .pv (.str s1)), (13, .ref 0 0)], 22, [.iter s1 p10]⟩
    refine AW.seq ?_
    refine AW.cases (decide (p10 < s1.length)) (fun hsp12 => ?_) (fun hsp12 => ?_)
    · replace h := bif_t hsp12 h
      have f14 := enext_t (H := [.iter s1 p10]) (l := 0) rfl (of_decide_eq_true hsp12)
      refine AW.reg hS [(0, .pv (.str s1)), (13, .ref 0 0), (14, .tup [.pv (.bool true), .pv (.int .i64 (p10 : Int)), .pv (.int .i32 (runeC s1 p10))]), (15, .pv (.bool true))] [.iter s1 (runeN s1 p10)] ?_ ?_
      · simp -implicitDefEqProofs only [RUNS, qindex, Nat.reduceAdd, Nat.reduceLeDiff, Nat.reduceSub, reduceIte, Nat.reduceEqDiff, Nat.reduceLT, reduceCtorEq, Nat.reduceMul, Nat.reduceBEq, Int.reduceEq, if_true, if_false, eq_self, ne_eq, env_bT, Token.pv_eq, f14]
      refine AW.seq ?_
      refine AW.cond (b := true) rfl (fun _ => ?_) (fun hb => absurd hb (by decide))
      refine AW.skip ?_
      refine AW.block ?_
      refine AW.seq ?_
      refine AW.reg hS [(0, .pv (.str s1)), (3, .pv (.int .i64 (p10 : Int))), (13, .ref 0 0)] [.iter s1 (runeN s1 p10)] ?_ ?_
      · simp -implicitDefEqProofs only [RUNS, qindex, Nat.reduceAdd, Nat.reduceLeDiff, Nat.reduceSub, reduceIte, Nat.reduceEqDiff, Nat.reduceLT, reduceCtorEq, Nat.reduceMul, Nat.reduceBEq, Int.reduceEq, if_true, if_false, eq_self, ne_eq, env_bT, Token.pv_eq]
      refine AW.seq ?_
      replace h := Option.bind_eq_some_iff.1 h; obtain ⟨c16, q17, h⟩ := h
      have f18 := sidx_f q17
      try simp only [Int.toNat_natCast] at f18
      replace h := Option.bind_eq_some_iff.1 h; obtain ⟨n19, q20, h⟩ := h
      have f21 := c_L_IndexByte [32, 9, 10, 59, 38, 124, 40, 41, 123, 125, 60, 62, 61, 94, 96, 36, 39, 92, 42, 63, 91] c16 n19 q20
      try dsimp only at f21
      try simp only [List.map_cons, List.map_nil, Token.pv_eq] at f21
      refine AW.reg hS [(0, .pv (.str s1)), (13, .ref 0 0), (21, .pv (.bool (decide (0 ≤ n19))))] [.iter s1 (runeN s1 p10)] ?_ ?_
      · simp -implicitDefEqProofs only [RUNS, qindex, Nat.reduceAdd, Nat.reduceLeDiff, Nat.reduceSub, reduceIte, Nat.reduceEqDiff, Nat.reduceLT, reduceCtorEq, Nat.reduceMul, Nat.reduceBEq, Int.reduceEq, if_true, if_false, eq_self, ne_eq, env_bT, T_3, T_5, T_9, Token.pv_eq, f18.1, f18.2.1, f18.2.2, pf_21, f21, eqT_3]
      refine AW.cond (b := decide (0 ≤ n19)) rfl (fun hb22 => ?_) (fun hb22 => ?_)
      · replace h := bif_t hb22 h
        refine AW.seq ?_
        refine AW.reg hS [(2, .pv (.bool false))] [.iter s1 (runeN s1 p10)] ?_ ?_
        · simp -implicitDefEqProofs only [RUNS, qindex, Nat.reduceAdd, Nat.reduceLeDiff, Nat.reduceSub, reduceIte, Nat.reduceEqDiff, Nat.reduceLT, reduceCtorEq, Nat.reduceMul, Nat.reduceBEq, Int.reduceEq, if_true, if_false, eq_self, ne_eq, env_bT, Token.pv_eq]
        refine AW.ret ?_
        cases h
        show finish _ _ _ _ _ = _
        first | rfl | (simp [finish, resOf, renArgs, toPV, selObjs, sl])
      · replace h := bif_f hb22 h
        refine AW.skip ?_
        exact ⟨(m13, runeN s1 p10), h, (Weak.norm (m := 1) (Nat.le_of_ble_eq_true rfl) ⟨rfl, rfl, trivial⟩ rfl rfl rfl), Nat.lt_succ_self _⟩
    · replace h := bif_f hsp12 h
      have f14 := enext_f (H := [.iter s1 p10]) (l := 0) rfl (of_decide_eq_false hsp12)
      refine AW.reg hS [(0, .pv (.str s1)), (13, .ref 0 0), (14, .tup [.pv (.bool false)]), (15, .pv (.bool false))] [.iter s1 p10] ?_ ?_
      · simp -implicitDefEqProofs only [RUNS, qindex, Nat.reduceAdd, Nat.reduceLeDiff, Nat.reduceSub, reduceIte, Nat.reduceEqDiff, Nat.reduceLT, reduceCtorEq, Nat.reduceMul, Nat.reduceBEq, Int.reduceEq, if_true, if_false, eq_self, ne_eq, env_bT, Token.pv_eq, f14]
      refine AW.seq ?_
      refine AW.cond (b := false) rfl (fun hb => absurd hb (by decide)) (fun _ => ?_)
      refine AW.exit ?_
      refine AW.seq ?_
      refine AW.reg hS [(2, .pv (.bool true))] [.iter s1 p10] ?_ ?_
      · simp -implicitDefEqProofs only [RUNS, qindex, Nat.reduceAdd, Nat.reduceLeDiff, Nat.reduceSub, reduceIte, Nat.reduceEqDiff, Nat.reduceLT, reduceCtorEq, Nat.reduceMul, Nat.reduceBEq, Int.reduceEq, if_true, if_false, eq_self, ne_eq, env_bT, Token.pv_eq]
      refine AW.ret ?_
      cases h
      show finish _ _ _ _ _ = _
      first | rfl | (simp [finish, resOf, renArgs, toPV, selObjs, sl])

set_option maxHeartbeats 4000000 in
theorem g_F9 {O : Orc} (hS : Sound env O) (hpf : O.pf = pfn) (c_F12 : C_F12 O) (c_L_ReplaceAll : C_L_ReplaceAll O) (s1 : Str) (r2 : Str) (h : F9 s1 = some r2) : Good env 9 [.pv (.str s1)] [] [.pv (.str r2)] [] := by
  have pf_12 : O.pf 12 = true := by rw [hpf]; rfl
  have pf_18 : O.pf 18 = true := by rw [hpf]; rfl
  refine Good.start (fn := Tryd.f9) (N := 10) fn_9 rfl rfl (by simp) [] _ rfl rfl ?_
  rw [F9] at h
  refine AW.seq ?_
  refine AW.reg hS [(0, .pv (.str s1))] [] ?_ ?_
  · simp -implicitDefEqProofs only [RUNS, qindex, Nat.reduceAdd, Nat.reduceLeDiff, Nat.reduceSub, reduceIte, Nat.reduceEqDiff, Nat.reduceLT, reduceCtorEq, Nat.reduceMul, Nat.reduceBEq, Int.reduceEq, if_true, if_false, eq_self, ne_eq, env_bT, Token.pv_eq]
  refine AW.seq ?_
  refine AW.seq ?_
  replace h := Option.bind_eq_some_iff.1 h; obtain ⟨r3, q4, h⟩ := h
  have f5 := c_F12 s1 r3 q4
  try dsimp only at f5
  refine AW.reg hS [(0, .pv (.str s1)), (4, .pv (.bool r3))] [] ?_ ?_
  · simp -implicitDefEqProofs only [RUNS, qindex, Nat.reduceAdd, Nat.reduceLeDiff, Nat.reduceSub, reduceIte, Nat.reduceEqDiff, Nat.reduceLT, reduceCtorEq, Nat.reduceMul, Nat.reduceBEq, Int.reduceEq, if_true, if_false, eq_self, ne_eq, env_bT, T_9, Token.pv_eq, pf_12, f5]
  refine AW.cond (b := r3) rfl (fun hb6 => ?_) (fun hb6 => ?_)
  · replace h := bif_t hb6 h
    refine AW.seq ?_
    refine AW.reg hS [(2, .pv (.str s1))] [] ?_ ?_
    · simp -implicitDefEqProofs only [RUNS, qindex, Nat.reduceAdd, Nat.reduceLeDiff, Nat.reduceSub, reduceIte, Nat.reduceEqDiff, Nat.reduceLT, reduceCtorEq, Nat.reduceMul, Nat.reduceBEq, Int.reduceEq, if_true, if_false, eq_self, ne_eq, env_bT, Token.pv_eq]
    refine AW.ret ?_
    cases h
    show finish _ _ _ _ _ = _
    first | rfl | (simp [finish, resOf, renArgs, toPV, selObjs, sl])
  · replace h := bif_f hb6 h
    refine AW.skip ?_
    refine AW.seq ?_
    replace h := Option.bind_eq_some_iff.1 h; obtain ⟨t7, q8, h⟩ := h
    have f9 := c_L_ReplaceAll s1 [39] [39, 39] t7 q8
    try dsimp only at f9
    try simp only [List.map_cons, List.map_nil, Token.pv_eq] at f9
    replace h := Option.bind_eq_some_iff.1 h; obtain ⟨s10, q11, h⟩ := h
    have f12 := catO_f q11
    try simp only [List.length_cons, List.length_nil, Nat.zero_add, Nat.reduceAdd, Nat.reduceLeDiff, Nat.add_zero, Nat.reduceMul] at f12
    replace h := Option.bind_eq_some_iff.1 h; obtain ⟨s13, q14, h⟩ := h
    have f15 := catO_f q14
    try simp only [List.length_cons, List.length_nil, Nat.zero_add, Nat.reduceAdd, Nat.reduceLeDiff, Nat.add_zero, Nat.reduceMul] at f15
    refine AW.reg hS [(2, .pv (.str s13))] [] ?_ ?_
    · simp -implicitDefEqProofs only [RUNS, qindex, Nat.reduceAdd, Nat.reduceLeDiff, Nat.reduceSub, reduceIte, Nat.reduceEqDiff, Nat.reduceLT, reduceCtorEq, Nat.reduceMul, Nat.reduceBEq, Int.reduceEq, if_true, if_false, eq_self, ne_eq, env_bT, T_9, Token.pv_eq, pf_18, f9, eqT_9, f12.1, f12.2, f15.1, f15.2]
    refine AW.ret ?_
    cases h
    show finish _ _ _ _ _ = _
    first | rfl | (simp [finish, resOf, renArgs, toPV, selObjs, sl])

set_option maxHeartbeats 4000000 in
theorem g_F8 {O : Orc} (hS : Sound env O) (hpf : O.pf = pfn) (c_F10 : C_F10 O) (c_F14 : C_F14 O) (c_F9 : C_F9 O) (c_F12 : C_F12 O)  (r1 : Bool) (h : F8 = some r1) : Good env 8 [] [] [.pv (.bool r1)] [] := by
  have pf_9 : O.pf 9 = true := by rw [hpf]; rfl
  have pf_10 : O.pf 10 = true := by rw [hpf]; rfl
  have pf_12 : O.pf 12 = true := by rw [hpf]; rfl
  have pf_14 : O.pf 14 = true := by rw [hpf]; rfl
  refine Good.start (fn := Tryd.f8) (N := 137) fn_8 rfl rfl (by simp) [] _ rfl rfl ?_
  rw [F8] at h
  refine AW.seq ?_
  refine AW.reg hS [] [] ?_ ?_
  · simp -implicitDefEqProofs only [RUNS, qindex, Nat.reduceAdd, Nat.reduceLeDiff, Nat.reduceSub, reduceIte, Nat.reduceEqDiff, Nat.reduceLT, reduceCtorEq, Nat.reduceMul, Nat.reduceBEq, Int.reduceEq, if_true, if_false, eq_self, ne_eq, env_bT, Token.pv_eq]
  refine AW.seq ?_
  replace h := Option.bind_eq_some_iff.1 h; obtain ⟨⟨r2, r3, r4⟩, q5, h⟩ := h
  dsimp only at h
  have f6 := c_F10 [101, 99, 104, 111, 32, 36, 120, 46, 99] r2 r3 r4 q5
  try dsimp only at f6
  try simp only [List.map_cons, List.map_nil, Token.pv_eq] at f6
  refine AW.reg hS [(1, .pv (.slice (List.map Token.pv r2))), (2, .pv (.int .i64 r3)), (3, .pv (.int .i64 r4))] [] ?_ ?_
  · simp -implicitDefEqProofs only [RUNS, qindex, Nat.reduceAdd, Nat.reduceLeDiff, Nat.reduceSub, reduceIte, Nat.reduceEqDiff, Nat.reduceLT, reduceCtorEq, Nat.reduceMul, Nat.reduceBEq, Int.reduceEq, if_true, if_false, eq_self, ne_eq, env_bT, T_9, Token.pv_eq, pf_10, f6]
  refine AW.seq ?_
  replace h := Option.bind_eq_some_iff.1 h; obtain ⟨⟨r7, r8, r9⟩, q10, h⟩ := h
  dsimp only at h
  have f11 := c_F10 [99, 97, 116, 32, 60, 60, 69, 10, 120, 10, 69, 10, 108, 115] r7 r8 r9 q10
  try dsimp only at f11
  try simp only [List.map_cons, List.map_nil, Token.pv_eq] at f11
  refine AW.reg hS [(1, .pv (.slice (List.map Token.pv r2))), (2, .pv (.int .i64 r3)), (3, .pv (.int .i64 r4)), (4, .pv (.slice (List.map Token.pv r7))), (6, .pv (.int .i64 r9))] [] ?_ ?_
  · simp -implicitDefEqProofs only [RUNS, qindex, Nat.reduceAdd, Nat.reduceLeDiff, Nat.reduceSub, reduceIte, Nat.reduceEqDiff, Nat.reduceLT, reduceCtorEq, Nat.reduceMul, Nat.reduceBEq, Int.reduceEq, if_true, if_false, eq_self, ne_eq, env_bT, T_9, Token.pv_eq, pf_10, f11]
  refine AW.seq ?_
  replace h := Option.bind_eq_some_iff.1 h; obtain ⟨⟨r12, r13, r14⟩, q15, h⟩ := h
  dsimp only at h
  have f16 := c_F10 [97, 62, 91, 54, 52, 93, 98] r12 r13 r14 q15
  try dsimp only at f16
  try simp only [List.map_cons, List.map_nil, Token.pv_eq] at f16
  refine AW.reg hS [(1, .pv (.slice (List.map Token.pv r2))), (2, .pv (.int .i64 r3)), (3, .pv (.int .i64 r4)), (4, .pv (.slice (List.map Token.pv r7))), (6, .pv (.int .i64 r9)), (8, .pv (.int .i64 r13)), (9, .pv (.int .i64 r14))] [] ?_ ?_
  · simp -implicitDefEqProofs only [RUNS, qindex, Nat.reduceAdd, Nat.reduceLeDiff, Nat.reduceSub, reduceIte, Nat.reduceEqDiff, Nat.reduceLT, reduceCtorEq, Nat.reduceMul, Nat.reduceBEq, Int.reduceEq, if_true, if_false, eq_self, ne_eq, env_bT, T_9, Token.pv_eq, pf_10, f16]
  refine AW.seq ?_
  replace h := Option.bind_eq_some_iff.1 h; obtain ⟨⟨r17, r18, r19⟩, q20, h⟩ := h
  dsimp only at h
  have f21 := c_F10 [97, 39, 98] r17 r18 r19 q20
  try dsimp only at f21
  try simp only [List.map_cons, List.map_nil, Token.pv_eq] at f21
  refine AW.reg hS [(1, .pv (.slice (List.map Token.pv r2))), (2, .pv (.int .i64 r3)), (3, .pv (.int .i64 r4)), (4, .pv (.slice (List.map Token.pv r7))), (6, .pv (.int .i64 r9)), (8, .pv (.int .i64 r13)), (9, .pv (.int .i64 r14)), (11, .pv (.int .i64 r18)), (12, .pv (.int .i64 r19))] [] ?_ ?_
  · simp -implicitDefEqProofs only [RUNS, qindex, Nat.reduceAdd, Nat.reduceLeDiff, Nat.reduceSub, reduceIte, Nat.reduceEqDiff, Nat.reduceLT, reduceCtorEq, Nat.reduceMul, Nat.reduceBEq, Int.reduceEq, if_true, if_false, eq_self, ne_eq, env_bT, T_9, Token.pv_eq, pf_10, f21]
  refine AW.seq ?_
  replace h := Option.bind_eq_some_iff.1 h; obtain ⟨⟨r22, r23, r24⟩, q25, h⟩ := h
  dsimp only at h
  have f26 := c_F14 [97, 10, 98, 10, 69, 79, 70, 10, 99] 0 [69, 79, 70] r22 r23 r24 q25
  try dsimp only at f26
  try simp only [List.map_cons, List.map_nil, Token.pv_eq] at f26
  refine AW.reg hS [(1, .pv (.slice (List.map Token.pv r2))), (2, .pv (.int .i64 r3)), (3, .pv (.int .i64 r4)), (4, .pv (.slice (List.map Token.pv r7))), (6, .pv (.int .i64 r9)), (8, .pv (.int .i64 r13)), (9, .pv (.int .i64 r14)), (11, .pv (.int .i64 r18)), (12, .pv (.int .i64 r19)), (13, .pv (.str r22)), (14, .pv (.int .i64 r23)), (15, .pv (.int .i64 r24))] [] ?_ ?_
  · simp -implicitDefEqProofs only [RUNS, qindex, Nat.reduceAdd, Nat.reduceLeDiff, Nat.reduceSub, reduceIte, Nat.reduceEqDiff, Nat.reduceLT, reduceCtorEq, Nat.reduceMul, Nat.reduceBEq, Int.reduceEq, if_true, if_false, eq_self, ne_eq, env_bT, T_3, T_9, Token.pv_eq, pf_14, f26]
  refine AW.seq ?_
  refine AW.seq ?_
  refine AW.reg hS [(1, .pv (.slice (List.map Token.pv r2))), (2, .pv (.int .i64 r3)), (3, .pv (.int .i64 r4)), (4, .pv (.slice (List.map Token.pv r7))), (6, .pv (.int .i64 r9)), (8, .pv (.int .i64 r13)), (9, .pv (.int .i64 r14)), (11, .pv (.int .i64 r18)), (12, .pv (.int .i64 r19)), (13, .pv (.str r22)), (14, .pv (.int .i64 r23)), (15, .pv (.int .i64 r24)), (48, .pv (.bool (!decide ((r2.length : Int) = 5) || !decide ((r7.length : Int) = 4))))] [] ?_ ?_
  · clear h
    (simp -implicitDefEqProofs only [RUNS, qindex, Nat.reduceAdd, Nat.reduceLeDiff, Nat.reduceSub, reduceIte, Nat.reduceEqDiff, Nat.reduceLT, reduceCtorEq, Nat.reduceMul, Nat.reduceBEq, Int.reduceEq, if_true, if_false, eq_self, ne_eq, env_bT, T_3, T_24, T_30, Token.pv_eq, eqT_3]); repeat' (split <;> rename_i hb <;> (try simp only [HBS, ge_iff_le, gt_iff_lt] at hb) <;> simp -implicitDefEqProofs only [RUNS, qindex, Nat.reduceAdd, Nat.reduceLeDiff, Nat.reduceSub, reduceIte, Nat.reduceEqDiff, Nat.reduceLT, reduceCtorEq, Nat.reduceMul, Nat.reduceBEq, Int.reduceEq, if_true, if_false, eq_self, ne_eq, env_bT, T_3, T_24, T_30, Token.pv_eq, eqT_3, *, decide_true, decide_false, Decidable.not_not, not_false_eq_true, not_true_eq_false])
    all_goals (first | (simp only [BOOLS]; done) | (simp [*]; done) | ((try simp only [CLOS, beq_iff_eq, bne_iff_ne, ne_eq] at *) <;> omega) | (simp_all; done) | (simp_all <;> omega))
  refine AW.cond (b := (!decide ((r2.length : Int) = 5) || !decide ((r7.length : Int) = 4))) rfl (fun hb27 => ?_) (fun hb27 => ?_)
  · replace h := bif_t hb27 h
    refine AW.seq ?_
    refine AW.reg hS [(0, .pv (.bool false))] [] ?_ ?_
    · simp -implicitDefEqProofs only [RUNS, qindex, Nat.reduceAdd, Nat.reduceLeDiff, Nat.reduceSub, reduceIte, Nat.reduceEqDiff, Nat.reduceLT, reduceCtorEq, Nat.reduceMul, Nat.reduceBEq, Int.reduceEq, if_true, if_false, eq_self, ne_eq, env_bT, Token.pv_eq]
    refine AW.ret ?_
    cases h
    show finish _ _ _ _ _ = _
    first | rfl | (simp [finish, resOf, renArgs, toPV, selObjs, sl])
  · replace h := bif_f hb27 h
    refine AW.skip ?_
    refine AW.seq ?_
    replace h := Option.bind_eq_some_iff.1 h; obtain ⟨u28, q29, h⟩ := h
    have f30 := lidx_f q29
    replace h := Option.bind_eq_some_iff.1 h; obtain ⟨u31, q32, h⟩ := h
    have f33 := lidx_g (guardO_t q32)
    replace h := Option.bind_eq_some_iff.1 h; obtain ⟨u34, q35, h⟩ := h
    have f36 := lidx_g (guardO_t q35)
    replace h := Option.bind_eq_some_iff.1 h; obtain ⟨u37, q38, h⟩ := h
    have f39 := lidx_g (guardO_t q38)
    replace h := Option.bind_eq_some_iff.1 h; obtain ⟨r40, q41, h⟩ := h
    have f42 := fun hg => c_F9 [105, 116, 39, 115] r40 (guardO_t q41 hg)
    try dsimp only at f42
    try simp only [List.map_cons, List.map_nil, Token.pv_eq] at f42
    replace h := Option.bind_eq_some_iff.1 h; obtain ⟨r43, q44, h⟩ := h
    have f45 := fun hg => c_F9 [97] r43 (guardO_t q44 hg)
    try dsimp only at f45
    try simp only [List.map_cons, List.map_nil, Token.pv_eq] at f45
    replace h := Option.bind_eq_some_iff.1 h; obtain ⟨r46, q47, h⟩ := h
    have f48 := fun hg => c_F12 [42] r46 (guardO_t q47 hg)
    try dsimp only at f48
    try simp only [List.map_cons, List.map_nil, Token.pv_eq] at f48
    replace h := Option.bind_eq_some_iff.1 h; obtain ⟨r49, q50, h⟩ := h
    have f51 := fun hg => c_F12 [97, 33, 98] r49 (guardO_t q50 hg)
    try dsimp only at f51
    try simp only [List.map_cons, List.map_nil, Token.pv_eq] at f51
    refine AW.reg hS [(0, .pv (.bool (((((((((((((((((((decide (u28.kind_ = 2) && (decide (u28.at_ = 7) && (decide (u28.text_ = [94]) && (decide (u28.quoted_ = []))))) && (decide (u31.kind_ = 1) && (decide (u31.at_ = 7) && (decide (u31.text_ = [46, 99]) && (decide (u31.quoted_ = [48, 48])))))) && decide (r3 = 0)) && decide (r4 = 0)) && decide (r9 = 0)) && decide (u34.kind_ = 4)) && decide (u34.text_ = [69])) && decide (u37.at_ = 12)) && decide (r13 = 2)) && decide (r14 = 47)) && decide (r18 = 1)) && decide (r19 = 48)) && decide (r22 = [97, 10, 98, 10])) && decide (r23 = 8)) && decide (r24 = 0)) && decide (r40 = [39, 105, 116, 39, 39, 115, 39])) && decide (r43 = [97])) && !r46) && r49)))] [] ?_ ?_
    · clear h
      (simp -implicitDefEqProofs only [RUNS, qindex, Nat.reduceAdd, Nat.reduceLeDiff, Nat.reduceSub, reduceIte, Nat.reduceEqDiff, Nat.reduceLT, reduceCtorEq, Nat.reduceMul, Nat.reduceBEq, Int.reduceEq, if_true, if_false, eq_self, ne_eq, env_bT, T_3, T_9, T_24, T_25, T_30, Token.pv_eq, f30.1, f30.2.1, ownT_30, eqT_30, f33.1, f33.2.1, eqT_3, eqT_25, f36.1, f36.2.1, eqT_9, f39.1, f39.2.1, pf_9, f42, f45, pf_12, f48, f51]); repeat' (split <;> rename_i hb <;> (try simp only [HBS, ge_iff_le, gt_iff_lt] at hb) <;> simp -implicitDefEqProofs only [RUNS, qindex, Nat.reduceAdd, Nat.reduceLeDiff, Nat.reduceSub, reduceIte, Nat.reduceEqDiff, Nat.reduceLT, reduceCtorEq, Nat.reduceMul, Nat.reduceBEq, Int.reduceEq, if_true, if_false, eq_self, ne_eq, env_bT, T_3, T_9, T_24, T_25, T_30, Token.pv_eq, f30.1, f30.2.1, ownT_30, eqT_30, f33.1, f33.2.1, eqT_3, eqT_25, f36.1, f36.2.1, eqT_9, f39.1, f39.2.1, pf_9, f42, f45, pf_12, f48, f51, *, decide_true, decide_false, Decidable.not_not, not_false_eq_true, not_true_eq_false])
      all_goals (first | (simp only [BOOLS]; done) | (simp [*]; done) | ((try simp only [CLOS, beq_iff_eq, bne_iff_ne, ne_eq] at *) <;> omega) | (simp_all; done) | (simp_all <;> omega))
    refine AW.ret ?_
    cases h
    show finish _ _ _ _ _ = _
    first | rfl | (simp [finish, resOf, renArgs, toPV, selObjs, sl])

set_option maxHeartbeats 4000000 in
theorem g_F41 {O : Orc} (hS : Sound env O) (hpf : O.pf = pfn) (s1 : Str) (at2 : Int) (r3 : Int) (h : F41 s1 at2 = some r3) : Good env 41 [.pv (.str s1), .pv (.int .i64 at2)] [] [.pv (.int .i64 r3)] [] := by
  refine Good.start (fn := Tryd.f41) (N := 39) fn_41 rfl rfl (by simp) [] _ rfl rfl ?_
  rw [F41] at h
  refine AW.seq ?_
  refine AW.reg hS [(0, .pv (.str s1)), (1, .pv (.int .i64 at2))] [] ?_ ?_
  · simp -implicitDefEqProofs only [RUNS, qindex, Nat.reduceAdd, Nat.reduceLeDiff, Nat.reduceSub, reduceIte, Nat.reduceEqDiff, Nat.reduceLT, reduceCtorEq, Nat.reduceMul, Nat.reduceBEq, Int.reduceEq, if_true, if_false, eq_self, ne_eq, env_bT, Token.pv_eq]
  refine AW.seq ?_
  refine AW.seq ?_
  replace h := Option.bind_eq_some_iff.1 h; obtain ⟨c4, q5, h⟩ := h
  have f6 := sidx_g (guardO_t q5)
  refine AW.reg hS [(0, .pv (.str s1)), (1, .pv (.int .i64 at2)), (20, .pv (.bool (decide (at2 < (s1.length : Int)) && (decide (c4 = 32) || decide (c4 = 9)))))] [] ?_ ?_
  · clear h
    (simp -implicitDefEqProofs only [RUNS, qindex, Nat.reduceAdd, Nat.reduceLeDiff, Nat.reduceSub, reduceIte, Nat.reduceEqDiff, Nat.reduceLT, reduceCtorEq, Nat.reduceMul, Nat.reduceBEq, Int.reduceEq, if_true, if_false, eq_self, ne_eq, env_bT, T_3, T_5, T_9, Token.pv_eq, eqT_3, f6.1, f6.2.1, f6.2.2, eqT_5]); repeat' (split <;> rename_i hb <;> (try simp only [HBS, ge_iff_le, gt_iff_lt] at hb) <;> simp -implicitDefEqProofs only [RUNS, qindex, Nat.reduceAdd, Nat.reduceLeDiff, Nat.reduceSub, reduceIte, Nat.reduceEqDiff, Nat.reduceLT, reduceCtorEq, Nat.reduceMul, Nat.reduceBEq, Int.reduceEq, if_true, if_false, eq_self, ne_eq, env_bT, T_3, T_5, T_9, Token.pv_eq, eqT_3, f6.1, f6.2.1, f6.2.2, eqT_5, *, decide_true, decide_false, Decidable.not_not, not_false_eq_true, not_true_eq_false])
    all_goals (first | (simp only [BOOLS]; done) | (simp [*]; done) | ((try simp only [CLOS, beq_iff_eq, bne_iff_ne, ne_eq] at *) <;> omega) | (simp_all; done) | (simp_all <;> omega))
  refine AW.cond (b := (decide (at2 < (s1.length : Int)) && (decide (c4 = 32) || decide (c4 = 9)))) rfl (fun hb7 => ?_) (fun hb7 => ?_)
  · replace h := bif_t hb7 h
    refine AW.seq ?_
    refine AW.reg hS [(4, .pv (.int .i64 1))] [] ?_ ?_
    · simp -implicitDefEqProofs only [RUNS, qindex, Nat.reduceAdd, Nat.reduceLeDiff, Nat.reduceSub, reduceIte, Nat.reduceEqDiff, Nat.reduceLT, reduceCtorEq, Nat.reduceMul, Nat.reduceBEq, Int.reduceEq, if_true, if_false, eq_self, ne_eq, env_bT, Token.pv_eq]
    refine AW.ret ?_
    cases h
    show finish _ _ _ _ _ = _
    first | rfl | (simp [finish, resOf, renArgs, toPV, selObjs, sl])
  · replace h := bif_f hb7 h
    refine AW.skip ?_
    refine AW.seq ?_
    refine AW.seq ?_
    replace h := Option.bind_eq_some_iff.1 h; obtain ⟨c8, q9, h⟩ := h
    have f10 := sidx_g (guardO_t q9)
    replace h := Option.bind_eq_some_iff.1 h; obtain ⟨c11, q12, h⟩ := h
    have f13 := sidx_g (guardO_t q12)
    refine AW.reg hS [(38, .pv (.bool ((decide (IntKind.wrap .i64 (at2 + 1) < (s1.length : Int)) && decide (c8 = 92)) && decide (c11 = 10))))] [] ?_ ?_
    · clear h
      (simp -implicitDefEqProofs only [RUNS, qindex, Nat.reduceAdd, Nat.reduceLeDiff, Nat.reduceSub, reduceIte, Nat.reduceEqDiff, Nat.reduceLT, reduceCtorEq, Nat.reduceMul, Nat.reduceBEq, Int.reduceEq, if_true, if_false, eq_self, ne_eq, env_bT, T_3, T_5, T_9, Token.pv_eq, eqT_3, f10.1, f10.2.1, f10.2.2, eqT_5, f13.1, f13.2.1, f13.2.2]); repeat' (split <;> rename_i hb <;> (try simp only [HBS, ge_iff_le, gt_iff_lt] at hb) <;> simp -implicitDefEqProofs only [RUNS, qindex, Nat.reduceAdd, Nat.reduceLeDiff, Nat.reduceSub, reduceIte, Nat.reduceEqDiff, Nat.reduceLT, reduceCtorEq, Nat.reduceMul, Nat.reduceBEq, Int.reduceEq, if_true, if_false, eq_self, ne_eq, env_bT, T_3, T_5, T_9, Token.pv_eq, eqT_3, f10.1, f10.2.1, f10.2.2, eqT_5, f13.1, f13.2.1, f13.2.2, *, decide_true, decide_false, Decidable.not_not, not_false_eq_true, not_true_eq_false])
      all_goals (first | (simp only [BOOLS]; done) | (simp [*]; done) | ((try simp only [CLOS, beq_iff_eq, bne_iff_ne, ne_eq] at *) <;> omega) | (simp_all; done) | (simp_all <;> omega))
    refine AW.cond (b := ((decide (IntKind.wrap .i64 (at2 + 1) < (s1.length : Int)) && decide (c8 = 92)) && decide (c11 = 10))) rfl (fun hb14 => ?_) (fun hb14 => ?_)
    · replace h := bif_t hb14 h
      refine AW.seq ?_
      refine AW.reg hS [(4, .pv (.int .i64 2))] [] ?_ ?_
      · simp -implicitDefEqProofs only [RUNS, qindex, Nat.reduceAdd, Nat.reduceLeDiff, Nat.reduceSub, reduceIte, Nat.reduceEqDiff, Nat.reduceLT, reduceCtorEq, Nat.reduceMul, Nat.reduceBEq, Int.reduceEq, if_true, if_false, eq_self, ne_eq, env_bT, Token.pv_eq]
      refine AW.ret ?_
      cases h
      show finish _ _ _ _ _ = _
      first | rfl | (simp [finish, resOf, renArgs, toPV, selObjs, sl])
    · replace h := bif_f hb14 h
      refine AW.skip ?_
      refine AW.seq ?_
      refine AW.reg hS [(4, .pv (.int .i64 0))] [] ?_ ?_
      · simp -implicitDefEqProofs only [RUNS, qindex, Nat.reduceAdd, Nat.reduceLeDiff, Nat.reduceSub, reduceIte, Nat.reduceEqDiff, Nat.reduceLT, reduceCtorEq, Nat.reduceMul, Nat.reduceBEq, Int.reduceEq, if_true, if_false, eq_self, ne_eq, env_bT, Token.pv_eq]
      refine AW.ret ?_
      cases h
      show finish _ _ _ _ _ = _
      first | rfl | (simp [finish, resOf, renArgs, toPV, selObjs, sl])

set_option maxHeartbeats 4000000 in
theorem g_F27 {O : Orc} (hS : Sound env O) (hpf : O.pf = pfn) (c1 : Int) (all2 : Str) (r3 : Bool) (h : F27 c1 all2 = some r3) : Good env 27 [.pv (.int .u8 c1), .pv (.str all2)] [] [.pv (.bool r3)] [] := by
  refine Good.start (fn := Tryd.f27) (N := 17) fn_27 rfl rfl (by simp) [] _ rfl rfl ?_
  rw [F27] at h
  refine AW.seq ?_
  refine AW.reg hS [(0, .pv (.int .u8 c1)), (1, .pv (.str all2))] [] ?_ ?_
  · simp -implicitDefEqProofs only [RUNS, qindex, Nat.reduceAdd, Nat.reduceLeDiff, Nat.reduceSub, reduceIte, Nat.reduceEqDiff, Nat.reduceLT, reduceCtorEq, Nat.reduceMul, Nat.reduceBEq, Int.reduceEq, if_true, if_false, eq_self, ne_eq, env_bT, Token.pv_eq]
  refine AW.seq ?_
  refine AW.seq ?_
  refine AW.reg hS [(0, .pv (.int .u8 c1)), (1, .pv (.str all2)), (5, .pv (.int .i64 0))] [] ?_ ?_
  · simp -implicitDefEqProofs only [RUNS, qindex, Nat.reduceAdd, Nat.reduceLeDiff, Nat.reduceSub, reduceIte, Nat.reduceEqDiff, Nat.reduceLT, reduceCtorEq, Nat.reduceMul, Nat.reduceBEq, Int.reduceEq, if_true, if_false, eq_self, ne_eq, env_bT, Token.pv_eq]
  refine AW.block ?_
  refine AW.weak (Weak.slots (L := [(0, .pv (.int .u8 c1)), (1, .pv (.str all2)), (5, .pv (.int .i64 0))]) ⟨rfl, rfl, rfl, trivial⟩) ?_
  refine AW.loopI (α := Nat × Int) (fun (_, i4) => ⟨sl [(0, .pv (.int .u8 c1)), (1, .pv (.str all2)), (5, .pv (.int .i64 i4))], 17, []⟩) (fun x => iter (F27_b1 all2 c1) x.1 x.2 = some r3) (fun x => x.1) (BIG, 0) h ?_
  clear h
  intro ⟨n13, i4⟩ h
  replace h := iter_some h; obtain ⟨m7, rfl, h⟩ := h
  rw [F27_b1] at h
  try dsimp only at h
  show AW _ _ _ _ ⟨sl [(0, .pv (.int .u8 c1)), (1, .pv (.str all2)), (5, .pv (.int .i64 i4))], 17, []⟩
  refine AW.seq ?_
  refine AW.seq ?_
  refine AW.reg hS [(0, .pv (.int .u8 c1)), (1, .pv (.str all2)), (5, .pv (.int .i64 i4)), (9, .pv (.bool (decide (i4 < (all2.length : Int)))))] [] ?_ ?_
  · simp -implicitDefEqProofs only [RUNS, qindex, Nat.reduceAdd, Nat.reduceLeDiff, Nat.reduceSub, reduceIte, Nat.reduceEqDiff, Nat.reduceLT, reduceCtorEq, Nat.reduceMul, Nat.reduceBEq, Int.reduceEq, if_true, if_false, eq_self, ne_eq, env_bT, T_3, T_9, Token.pv_eq, eqT_3]
  refine AW.cond (b := decide (i4 < (all2.length : Int))) rfl (fun hb8 => ?_) (fun hb8 => ?_)
  · replace h := bif_t hb8 h
    refine AW.skip ?_
    refine AW.seq ?_
    refine AW.block ?_
    refine AW.seq ?_
    replace h := Option.bind_eq_some_iff.1 h; obtain ⟨c9, q10, h⟩ := h
    have f11 := sidx_f q10
    refine AW.reg hS [(0, .pv (.int .u8 c1)), (1, .pv (.str all2)), (5, .pv (.int .i64 i4)), (16, .pv (.bool (decide (c9 = c1))))] [] ?_ ?_
    · simp -implicitDefEqProofs only [RUNS, qindex, Nat.reduceAdd, Nat.reduceLeDiff, Nat.reduceSub, reduceIte, Nat.reduceEqDiff, Nat.reduceLT, reduceCtorEq, Nat.reduceMul, Nat.reduceBEq, Int.reduceEq, if_true, if_false, eq_self, ne_eq, env_bT, T_5, T_9, Token.pv_eq, f11.1, f11.2.1, f11.2.2, eqT_5]
    refine AW.cond (b := decide (c9 = c1)) rfl (fun hb12 => ?_) (fun hb12 => ?_)
    · replace h := bif_t hb12 h
      refine AW.seq ?_
      refine AW.reg hS [(4, .pv (.bool true))] [] ?_ ?_
      · simp -implicitDefEqProofs only [RUNS, qindex, Nat.reduceAdd, Nat.reduceLeDiff, Nat.reduceSub, reduceIte, Nat.reduceEqDiff, Nat.reduceLT, reduceCtorEq, Nat.reduceMul, Nat.reduceBEq, Int.reduceEq, if_true, if_false, eq_self, ne_eq, env_bT, Token.pv_eq]
      refine AW.ret ?_
      cases h
      show finish _ _ _ _ _ = _
      first | rfl | (simp [finish, resOf, renArgs, toPV, selObjs, sl])
    · replace h := bif_f hb12 h
      refine AW.skip ?_
      refine AW.reg hS [(0, .pv (.int .u8 c1)), (1, .pv (.str all2)), (5, .pv (.int .i64 (IntKind.wrap .i64 (i4 + 1))))] [] ?_ ?_
      · simp -implicitDefEqProofs only [RUNS, qindex, Nat.reduceAdd, Nat.reduceLeDiff, Nat.reduceSub, reduceIte, Nat.reduceEqDiff, Nat.reduceLT, reduceCtorEq, Nat.reduceMul, Nat.reduceBEq, Int.reduceEq, if_true, if_false, eq_self, ne_eq, env_bT, T_3, Token.pv_eq, eqT_3]
      exact ⟨(m7, IntKind.wrap .i64 (i4 + 1)), h, (Weak.norm (m := 0) (Nat.le_of_ble_eq_true rfl) ⟨rfl, rfl, rfl, trivial⟩ rfl rfl rfl), Nat.lt_succ_self _⟩
  · replace h := bif_f hb8 h
    refine AW.exit ?_
    refine AW.seq ?_
    refine AW.reg hS [(4, .pv (.bool false))] [] ?_ ?_
    · simp -implicitDefEqProofs only [RUNS, qindex, Nat.reduceAdd, Nat.reduceLeDiff, Nat.reduceSub, reduceIte, Nat.reduceEqDiff, Nat.reduceLT, reduceCtorEq, Nat.reduceMul, Nat.reduceBEq, Int.reduceEq, if_true, if_false, eq_self, ne_eq, env_bT, Token.pv_eq]
    refine AW.ret ?_
    cases h
    show finish _ _ _ _ _ = _
    first | rfl | (simp [finish, resOf, renArgs, toPV, selObjs, sl])

end Go.Abs.U47
