/- The layer 47 laws: the functions walked. -/
import Derived.Test.YtdmihmnegakgbaaGreatDoorD1
set_option linter.unusedVariables false
set_option linter.unusedSimpArgs false
set_option maxRecDepth 8000
namespace Go.Abs.U47
open Go.RowKit Go.Proofs

set_option maxHeartbeats 4000000 in
theorem g_F30 {O : Orc} (hS : Sound env O) (hpf : O.pf = pfn) (c_F12x2 : C_F12x2 O) (c_F15 : C_F15 O) (c_L_IndexByte : C_L_IndexByte O) (c_F51 : C_F51 O) (c_F26x2 : C_F26x2 O) (x1 : Str) (x2 : Int) (x3 : Int) (x4 : Int) (x5 : Int) (l6 : List Token) (l7 : List Str) (r8 : Str) (r9 : Bool) (x10 : Int) (x11 : Int) (h : F30 x1 x2 x3 x4 x5 l6 l7 = some (r8, r9, x10, x11)) : Good env 30 [.ref 0 0] [.var [as_ x1, ai x2, .vec 1 l6.length, .vec 2 l7.length, ai x3, ai x4, ai x5], .row 32 4 (List.map Token.pv l6) true, .row 9 1 (List.map PV.str l7) true] [as_ r8, ab r9] [.var [as_ x1, ai x2, .vec 1 l6.length, .vec 2 l7.length, ai x3, ai x10, ai x11], .row 32 4 (List.map Token.pv l6) true, .row 9 1 (List.map PV.str l7) true] := by
  have pf_12 : O.pf 12 = false := by rw [hpf]; rfl
  have pf_13 : O.pf 13 = true := by rw [hpf]; rfl
  have pf_15 : O.pf 15 = true := by rw [hpf]; rfl
  have pf_26 : O.pf 26 = false := by rw [hpf]; rfl
  have pf_51 : O.pf 51 = true := by rw [hpf]; rfl
  refine Good.start (fn := Tryz.f30) (N := 73) fn_30 rfl rfl (by simp) [] _ rfl rfl ?_
  rw [F30] at h
  refine AW.seq ?_
  refine AW.reg hS [(0, .ref 0 0)] [.var [as_ x1, ai x2, .vec 1 l6.length, .vec 2 l7.length, ai x3, ai x4, ai x5], .row 32 4 (List.map Token.pv l6) true, .row 9 1 (List.map PV.str l7) true] ?_ ?_
  · simp -implicitDefEqProofs only [RUNS, qindex, Nat.reduceAdd, Nat.reduceLeDiff, Nat.reduceSub, reduceIte, Nat.reduceEqDiff, Nat.reduceLT, reduceCtorEq, Nat.reduceMul, Nat.reduceBEq, Int.reduceEq, if_true, if_false, eq_self, ne_eq, env_bT, Token.pv_eq, Part.pv_eq]
  refine AW.seq ?_
  replace h := Option.bind_eq_some_iff.1 h; obtain ⟨r12, q13, h⟩ := h
  have f14 := c_F12x2 x1 x2 x3 x4 x5 l6 l7 r12 q13
  try dsimp only at f14
  have e15 : ecall O [.var [as_ x1, ai x2, .vec 1 l6.length, .vec 2 l7.length, ai x3, ai x4, ai x5], .row 32 4 (List.map Token.pv l6) true, .row 9 1 (List.map PV.str l7) true] 12 [.ref 0 0] = some (retAV [as_ r12], [.var [as_ x1, ai x2, .vec 1 l6.length, .vec 2 l7.length, ai x3, ai x4, ai x5], .row 32 4 (List.map Token.pv l6) true, .row 9 1 (List.map PV.str l7) true]) := ecall_eq rfl rfl rfl f14 rfl rfl rfl
  refine AW.reg hS [(0, .ref 0 0), (4, as_ r12)] [.var [as_ x1, ai x2, .vec 1 l6.length, .vec 2 l7.length, ai x3, ai x4, ai x5], .row 32 4 (List.map Token.pv l6) true, .row 9 1 (List.map PV.str l7) true] ?_ ?_
  · simp -implicitDefEqProofs only [RUNS, qindex, Nat.reduceAdd, Nat.reduceLeDiff, Nat.reduceSub, reduceIte, Nat.reduceEqDiff, Nat.reduceLT, reduceCtorEq, Nat.reduceMul, Nat.reduceBEq, Int.reduceEq, if_true, if_false, eq_self, ne_eq, env_bT, T_34, Token.pv_eq, Part.pv_eq, pf_12, e15]
  refine AW.seq ?_
  refine AW.seq ?_
  refine AW.reg hS [(0, .ref 0 0), (4, as_ r12), (12, .full (List.map PV.str [[38, 38], [124, 124], [36, 35]])), (13, ai ([[38, 38], [124, 124], [36, 35]].length : Int)), (14, ai 0)] [.var [as_ x1, ai x2, .vec 1 l6.length, .vec 2 l7.length, ai x3, ai x4, ai x5], .row 32 4 (List.map Token.pv l6) true, .row 9 1 (List.map PV.str l7) true] ?_ ?_
  · simp -implicitDefEqProofs only [RUNS, qindex, Nat.reduceAdd, Nat.reduceLeDiff, Nat.reduceSub, reduceIte, Nat.reduceEqDiff, Nat.reduceLT, reduceCtorEq, Nat.reduceMul, Nat.reduceBEq, Int.reduceEq, if_true, if_false, eq_self, ne_eq, env_bT, T_9, T_35, Token.pv_eq, Part.pv_eq, ownT_35]
  refine AW.block ?_
  refine AW.weak (Weak.slots (L := [(0, .ref 0 0), (4, as_ r12), (12, .full (List.map PV.str [[38, 38], [124, 124], [36, 35]])), (13, ai ([[38, 38], [124, 124], [36, 35]].length : Int)), (14, ai 0)]) ⟨rfl, rfl, rfl, rfl, rfl, trivial⟩) ?_
  refine AW.loopI (α := Nat × Int) (fun (_, i16) => ⟨sl [(0, .ref 0 0), (4, as_ r12), (12, .full (List.map PV.str [[38, 38], [124, 124], [36, 35]])), (13, ai ([[38, 38], [124, 124], [36, 35]].length : Int)), (14, ai i16)], 73, [.var [as_ x1, ai x2, .vec 1 l6.length, .vec 2 l7.length, ai x3, ai x4, ai x5], .row 32 4 (List.map Token.pv l6) true, .row 9 1 (List.map PV.str l7) true]⟩) (fun x => iter (F30_b1 r12 x4 x5 x2 x1 x3 l6 l7) x.1 x.2 = some (r8, r9, x10, x11)) (fun x => x.1) (BIG, 0) h ?_
  clear h
  intro ⟨n72, i16⟩ h
  replace h := iter_some h; obtain ⟨m19, rfl, h⟩ := h
  rw [F30_b1] at h
  try dsimp only at h
  show AW _ _ _ _ ⟨sl [(0, .ref 0 0), (4, as_ r12), (12, .full (List.map PV.str [[38, 38], [124, 124], [36, 35]])), (13, ai ([[38, 38], [124, 124], [36, 35]].length : Int)), (14, ai i16)], 73, [.var [as_ x1, ai x2, .vec 1 l6.length, .vec 2 l7.length, ai x3, ai x4, ai x5], .row 32 4 (List.map Token.pv l6) true, .row 9 1 (List.map PV.str l7) true]⟩
  refine AW.seq ?_
  refine AW.reg hS [(0, .ref 0 0), (4, as_ r12), (12, .full (List.map PV.str [[38, 38], [124, 124], [36, 35]])), (13, ai ([[38, 38], [124, 124], [36, 35]].length : Int)), (14, ai i16), (15, ab (decide (i16 < ([[38, 38], [124, 124], [36, 35]].length : Int))))] [.var [as_ x1, ai x2, .vec 1 l6.length, .vec 2 l7.length, ai x3, ai x4, ai x5], .row 32 4 (List.map Token.pv l6) true, .row 9 1 (List.map PV.str l7) true] ?_ ?_
  · simp -implicitDefEqProofs only [RUNS, qindex, Nat.reduceAdd, Nat.reduceLeDiff, Nat.reduceSub, reduceIte, Nat.reduceEqDiff, Nat.reduceLT, reduceCtorEq, Nat.reduceMul, Nat.reduceBEq, Int.reduceEq, if_true, if_false, eq_self, ne_eq, env_bT, T_3, Token.pv_eq, Part.pv_eq, eqT_3]
  refine AW.seq ?_
  refine AW.cond (b := decide (i16 < ([[38, 38], [124, 124], [36, 35]].length : Int))) rfl (fun hb20 => ?_) (fun hb20 => ?_)
  · replace h := bif_t hb20 h
    refine AW.skip ?_
    refine AW.seq ?_
    refine AW.block ?_
    refine AW.seq ?_
    replace h := Option.bind_eq_some_iff.1 h; obtain ⟨w21, q22, h⟩ := h
    have f23 := lidx_f q22
    have f23m : (List.map PV.str [[38, 38], [124, 124], [36, 35]])[Int.toNat i16]? = some (PV.str w21) := by rw [List.getElem?_map, f23.2.1]; rfl
    try simp only [List.map_cons, List.map_nil] at f23m
    refine AW.reg hS [(0, .ref 0 0), (4, as_ r12), (6, as_ w21), (12, .full (List.map PV.str [[38, 38], [124, 124], [36, 35]])), (13, ai ([[38, 38], [124, 124], [36, 35]].length : Int)), (14, ai i16)] [.var [as_ x1, ai x2, .vec 1 l6.length, .vec 2 l7.length, ai x3, ai x4, ai x5], .row 32 4 (List.map Token.pv l6) true, .row 9 1 (List.map PV.str l7) true] ?_ ?_
    · simp -implicitDefEqProofs only [RUNS, qindex, Nat.reduceAdd, Nat.reduceLeDiff, Nat.reduceSub, reduceIte, Nat.reduceEqDiff, Nat.reduceLT, reduceCtorEq, Nat.reduceMul, Nat.reduceBEq, Int.reduceEq, if_true, if_false, eq_self, ne_eq, env_bT, T_9, T_35, Token.pv_eq, Part.pv_eq, f23.1, f23.2.1, f23m]
    refine AW.seq ?_
    replace h := Option.bind_eq_some_iff.1 h; obtain ⟨r24, q25, h⟩ := h
    have f26 := c_F15 r12 w21 r24 q25
    try dsimp only at f26
    refine AW.reg hS [(0, .ref 0 0), (4, as_ r12), (6, as_ w21), (12, .full (List.map PV.str [[38, 38], [124, 124], [36, 35]])), (13, ai ([[38, 38], [124, 124], [36, 35]].length : Int)), (14, ai i16), (20, ab r24)] [.var [as_ x1, ai x2, .vec 1 l6.length, .vec 2 l7.length, ai x3, ai x4, ai x5], .row 32 4 (List.map Token.pv l6) true, .row 9 1 (List.map PV.str l7) true] ?_ ?_
    · simp -implicitDefEqProofs only [RUNS, qindex, Nat.reduceAdd, Nat.reduceLeDiff, Nat.reduceSub, reduceIte, Nat.reduceEqDiff, Nat.reduceLT, reduceCtorEq, Nat.reduceMul, Nat.reduceBEq, Int.reduceEq, if_true, if_false, eq_self, ne_eq, env_bT, T_9, Token.pv_eq, Part.pv_eq, pf_15, f26]
    refine AW.cond (b := r24) rfl (fun hb27 => ?_) (fun hb27 => ?_)
    · replace h := bif_t hb27 h
      refine AW.seq ?_
      refine AW.reg hS [(2, as_ w21), (3, ab true)] [.var [as_ x1, ai x2, .vec 1 l6.length, .vec 2 l7.length, ai x3, ai x4, ai x5], .row 32 4 (List.map Token.pv l6) true, .row 9 1 (List.map PV.str l7) true] ?_ ?_
      · simp -implicitDefEqProofs only [RUNS, qindex, Nat.reduceAdd, Nat.reduceLeDiff, Nat.reduceSub, reduceIte, Nat.reduceEqDiff, Nat.reduceLT, reduceCtorEq, Nat.reduceMul, Nat.reduceBEq, Int.reduceEq, if_true, if_false, eq_self, ne_eq, env_bT, Token.pv_eq, Part.pv_eq]
      refine AW.ret ?_
      cases h
      show finish _ _ _ _ _ = _
      first | rfl | (simp [finish, resOf, renArgs, toPV, selObjs, sl])
    · replace h := bif_f hb27 h
      refine AW.skip ?_
      refine AW.reg hS [(0, .ref 0 0), (4, as_ r12), (12, .full (List.map PV.str [[38, 38], [124, 124], [36, 35]])), (13, ai ([[38, 38], [124, 124], [36, 35]].length : Int)), (14, ai (IntKind.wrap .i64 (i16 + 1)))] [.var [as_ x1, ai x2, .vec 1 l6.length, .vec 2 l7.length, ai x3, ai x4, ai x5], .row 32 4 (List.map Token.pv l6) true, .row 9 1 (List.map PV.str l7) true] ?_ ?_
      · simp -implicitDefEqProofs only [RUNS, qindex, Nat.reduceAdd, Nat.reduceLeDiff, Nat.reduceSub, reduceIte, Nat.reduceEqDiff, Nat.reduceLT, reduceCtorEq, Nat.reduceMul, Nat.reduceBEq, Int.reduceEq, if_true, if_false, eq_self, ne_eq, env_bT, T_3, Token.pv_eq, Part.pv_eq, eqT_3]
      exact ⟨(m19, IntKind.wrap .i64 (i16 + 1)), h, (Weak.norm (m := 3) (Nat.le_of_ble_eq_true rfl) ⟨rfl, rfl, rfl, rfl, rfl, trivial⟩ rfl rfl rfl), Nat.lt_succ_self _⟩
  · replace h := bif_f hb20 h
    refine AW.exit ?_
    refine AW.seq ?_
    refine AW.seq ?_
    refine AW.reg hS [(0, .ref 0 0), (4, as_ r12), (24, ab (decide (r12 = [])))] [.var [as_ x1, ai x2, .vec 1 l6.length, .vec 2 l7.length, ai x3, ai x4, ai x5], .row 32 4 (List.map Token.pv l6) true, .row 9 1 (List.map PV.str l7) true] ?_ ?_
    · simp -implicitDefEqProofs only [RUNS, qindex, Nat.reduceAdd, Nat.reduceLeDiff, Nat.reduceSub, reduceIte, Nat.reduceEqDiff, Nat.reduceLT, reduceCtorEq, Nat.reduceMul, Nat.reduceBEq, Int.reduceEq, if_true, if_false, eq_self, ne_eq, env_bT, T_9, Token.pv_eq, Part.pv_eq, eqT_9]
    refine AW.cond (b := decide (r12 = [])) rfl (fun hb28 => ?_) (fun hb28 => ?_)
    · replace h := bif_t hb28 h
      refine AW.seq ?_
      refine AW.reg hS [(2, as_ []), (3, ab true)] [.var [as_ x1, ai x2, .vec 1 l6.length, .vec 2 l7.length, ai x3, ai x4, ai x5], .row 32 4 (List.map Token.pv l6) true, .row 9 1 (List.map PV.str l7) true] ?_ ?_
      · simp -implicitDefEqProofs only [RUNS, qindex, Nat.reduceAdd, Nat.reduceLeDiff, Nat.reduceSub, reduceIte, Nat.reduceEqDiff, Nat.reduceLT, reduceCtorEq, Nat.reduceMul, Nat.reduceBEq, Int.reduceEq, if_true, if_false, eq_self, ne_eq, env_bT, Token.pv_eq, Part.pv_eq]
      refine AW.ret ?_
      cases h
      show finish _ _ _ _ _ = _
      first | rfl | (simp [finish, resOf, renArgs, toPV, selObjs, sl])
    · replace h := bif_f hb28 h
      refine AW.skip ?_
      refine AW.seq ?_
      refine AW.seq ?_
      replace h := Option.bind_eq_some_iff.1 h; obtain ⟨c29, q30, h⟩ := h
      have f31 := sidx_f q30
      replace h := Option.bind_eq_some_iff.1 h; obtain ⟨n32, q33, h⟩ := h
      have f34 := c_L_IndexByte [59, 38, 40, 41, 123, 125, 61, 94, 96, 36, 33, 64] c29 n32 q33
      try dsimp only at f34
      try simp only [List.map_cons, List.map_nil, Token.pv_eq, Part.pv_eq] at f34
      refine AW.reg hS [(0, .ref 0 0), (4, as_ r12), (28, ab (decide (0 ≤ n32)))] [.var [as_ x1, ai x2, .vec 1 l6.length, .vec 2 l7.length, ai x3, ai x4, ai x5], .row 32 4 (List.map Token.pv l6) true, .row 9 1 (List.map PV.str l7) true] ?_ ?_
      · simp -implicitDefEqProofs only [RUNS, qindex, Nat.reduceAdd, Nat.reduceLeDiff, Nat.reduceSub, reduceIte, Nat.reduceEqDiff, Nat.reduceLT, reduceCtorEq, Nat.reduceMul, Nat.reduceBEq, Int.reduceEq, if_true, if_false, eq_self, ne_eq, env_bT, T_3, T_5, T_9, Token.pv_eq, Part.pv_eq, f31.1, f31.2.1, f31.2.2, pf_13, f34, eqT_3]
      refine AW.cond (b := decide (0 ≤ n32)) rfl (fun hb35 => ?_) (fun hb35 => ?_)
      · replace h := bif_t hb35 h
        refine AW.seq ?_
        replace h := Option.bind_eq_some_iff.1 h; obtain ⟨t36, q37, h⟩ := h
        have f38 := sslice_f q37
        have f38e := f38.2.2.2.2
        try simp only [Int.toNat_natCast, Int.toNat_zero, List.drop_zero] at f38e
        have f38l := f38.2.2.1
        try simp only [Int.toNat_natCast, Int.toNat_zero] at f38l
        refine AW.reg hS [(2, as_ t36), (3, ab true)] [.var [as_ x1, ai x2, .vec 1 l6.length, .vec 2 l7.length, ai x3, ai x4, ai x5], .row 32 4 (List.map Token.pv l6) true, .row 9 1 (List.map PV.str l7) true] ?_ ?_
        · simp -implicitDefEqProofs only [RUNS, qindex, Nat.reduceAdd, Nat.reduceLeDiff, Nat.reduceSub, reduceIte, Nat.reduceEqDiff, Nat.reduceLT, reduceCtorEq, Nat.reduceMul, Nat.reduceBEq, Int.reduceEq, if_true, if_false, eq_self, ne_eq, env_bT, T_9, Token.pv_eq, Part.pv_eq, f38.1, f38.2.1, f38l, f38.2.2.2.1, f38e, Int.toNat_natCast, Int.toNat_zero]
        refine AW.ret ?_
        cases h
        show finish _ _ _ _ _ = _
        first | rfl | (simp [finish, resOf, renArgs, toPV, selObjs, sl])
      · replace h := bif_f hb35 h
        refine AW.skip ?_
        refine AW.seq ?_
        refine AW.seq ?_
        refine AW.reg hS [(0, .ref 0 0), (4, as_ r12), (31, .full (List.map PV.str [[62, 62], [62], [60], [124]])), (32, ai ([[62, 62], [62], [60], [124]].length : Int)), (33, ai 0)] [.var [as_ x1, ai x2, .vec 1 l6.length, .vec 2 l7.length, ai x3, ai x4, ai x5], .row 32 4 (List.map Token.pv l6) true, .row 9 1 (List.map PV.str l7) true] ?_ ?_
        · simp -implicitDefEqProofs only [RUNS, qindex, Nat.reduceAdd, Nat.reduceLeDiff, Nat.reduceSub, reduceIte, Nat.reduceEqDiff, Nat.reduceLT, reduceCtorEq, Nat.reduceMul, Nat.reduceBEq, Int.reduceEq, if_true, if_false, eq_self, ne_eq, env_bT, T_9, T_35, Token.pv_eq, Part.pv_eq, ownT_35]
        refine AW.block ?_
        refine AW.weak (Weak.slots (L := [(0, .ref 0 0), (4, as_ r12), (31, .full (List.map PV.str [[62, 62], [62], [60], [124]])), (32, ai ([[62, 62], [62], [60], [124]].length : Int)), (33, ai 0)]) ⟨rfl, rfl, rfl, rfl, rfl, trivial⟩) ?_
        refine AW.loopI (α := Nat × Int) (fun (_, i39) => ⟨sl [(0, .ref 0 0), (4, as_ r12), (31, .full (List.map PV.str [[62, 62], [62], [60], [124]])), (32, ai ([[62, 62], [62], [60], [124]].length : Int)), (33, ai i39)], 73, [.var [as_ x1, ai x2, .vec 1 l6.length, .vec 2 l7.length, ai x3, ai x4, ai x5], .row 32 4 (List.map Token.pv l6) true, .row 9 1 (List.map PV.str l7) true]⟩) (fun x => iter (F30_b2 r12 x4 x5 x2 x1 x3 l6 l7) x.1 x.2 = some (r8, r9, x10, x11)) (fun x => x.1) (BIG, 0) h ?_
        clear h
        intro ⟨n71, i39⟩ h
        replace h := iter_some h; obtain ⟨m42, rfl, h⟩ := h
        rw [F30_b2] at h
        try dsimp only at h
        show AW _ _ _ _ ⟨sl [(0, .ref 0 0), (4, as_ r12), (31, .full (List.map PV.str [[62, 62], [62], [60], [124]])), (32, ai ([[62, 62], [62], [60], [124]].length : Int)), (33, ai i39)], 73, [.var [as_ x1, ai x2, .vec 1 l6.length, .vec 2 l7.length, ai x3, ai x4, ai x5], .row 32 4 (List.map Token.pv l6) true, .row 9 1 (List.map PV.str l7) true]⟩
        refine AW.seq ?_
        refine AW.reg hS [(0, .ref 0 0), (4, as_ r12), (31, .full (List.map PV.str [[62, 62], [62], [60], [124]])), (32, ai ([[62, 62], [62], [60], [124]].length : Int)), (33, ai i39), (34, ab (decide (i39 < ([[62, 62], [62], [60], [124]].length : Int))))] [.var [as_ x1, ai x2, .vec 1 l6.length, .vec 2 l7.length, ai x3, ai x4, ai x5], .row 32 4 (List.map Token.pv l6) true, .row 9 1 (List.map PV.str l7) true] ?_ ?_
        · simp -implicitDefEqProofs only [RUNS, qindex, Nat.reduceAdd, Nat.reduceLeDiff, Nat.reduceSub, reduceIte, Nat.reduceEqDiff, Nat.reduceLT, reduceCtorEq, Nat.reduceMul, Nat.reduceBEq, Int.reduceEq, if_true, if_false, eq_self, ne_eq, env_bT, T_3, Token.pv_eq, Part.pv_eq, eqT_3]
        refine AW.seq ?_
        refine AW.cond (b := decide (i39 < ([[62, 62], [62], [60], [124]].length : Int))) rfl (fun hb43 => ?_) (fun hb43 => ?_)
        · replace h := bif_t hb43 h
          refine AW.skip ?_
          refine AW.seq ?_
          refine AW.block ?_
          refine AW.seq ?_
          replace h := Option.bind_eq_some_iff.1 h; obtain ⟨w44, q45, h⟩ := h
          have f46 := lidx_f q45
          have f46m : (List.map PV.str [[62, 62], [62], [60], [124]])[Int.toNat i39]? = some (PV.str w44) := by rw [List.getElem?_map, f46.2.1]; rfl
          try simp only [List.map_cons, List.map_nil] at f46m
          refine AW.reg hS [(0, .ref 0 0), (4, as_ r12), (8, as_ w44), (31, .full (List.map PV.str [[62, 62], [62], [60], [124]])), (32, ai ([[62, 62], [62], [60], [124]].length : Int)), (33, ai i39)] [.var [as_ x1, ai x2, .vec 1 l6.length, .vec 2 l7.length, ai x3, ai x4, ai x5], .row 32 4 (List.map Token.pv l6) true, .row 9 1 (List.map PV.str l7) true] ?_ ?_
          · simp -implicitDefEqProofs only [RUNS, qindex, Nat.reduceAdd, Nat.reduceLeDiff, Nat.reduceSub, reduceIte, Nat.reduceEqDiff, Nat.reduceLT, reduceCtorEq, Nat.reduceMul, Nat.reduceBEq, Int.reduceEq, if_true, if_false, eq_self, ne_eq, env_bT, T_9, T_35, Token.pv_eq, Part.pv_eq, f46.1, f46.2.1, f46m]
          refine AW.seq ?_
          refine AW.seq ?_
          replace h := Option.bind_eq_some_iff.1 h; obtain ⟨r47, q48, h⟩ := h
          have f49 := c_F15 r12 w44 r47 q48
          try dsimp only at f49
          refine AW.reg hS [(0, .ref 0 0), (4, as_ r12), (8, as_ w44), (31, .full (List.map PV.str [[62, 62], [62], [60], [124]])), (32, ai ([[62, 62], [62], [60], [124]].length : Int)), (33, ai i39), (40, ab (!r47))] [.var [as_ x1, ai x2, .vec 1 l6.length, .vec 2 l7.length, ai x3, ai x4, ai x5], .row 32 4 (List.map Token.pv l6) true, .row 9 1 (List.map PV.str l7) true] ?_ ?_
          · simp -implicitDefEqProofs only [RUNS, qindex, Nat.reduceAdd, Nat.reduceLeDiff, Nat.reduceSub, reduceIte, Nat.reduceEqDiff, Nat.reduceLT, reduceCtorEq, Nat.reduceMul, Nat.reduceBEq, Int.reduceEq, if_true, if_false, eq_self, ne_eq, env_bT, T_9, Token.pv_eq, Part.pv_eq, pf_15, f49]
          refine AW.cond (b := !r47) rfl (fun hb50 => ?_) (fun hb50 => ?_)
          · replace h := bif_t hb50 h
            refine AW.exit ?_
            refine AW.reg hS [(0, .ref 0 0), (4, as_ r12), (31, .full (List.map PV.str [[62, 62], [62], [60], [124]])), (32, ai ([[62, 62], [62], [60], [124]].length : Int)), (33, ai (IntKind.wrap .i64 (i39 + 1)))] [.var [as_ x1, ai x2, .vec 1 l6.length, .vec 2 l7.length, ai x3, ai x4, ai x5], .row 32 4 (List.map Token.pv l6) true, .row 9 1 (List.map PV.str l7) true] ?_ ?_
            · simp -implicitDefEqProofs only [RUNS, qindex, Nat.reduceAdd, Nat.reduceLeDiff, Nat.reduceSub, reduceIte, Nat.reduceEqDiff, Nat.reduceLT, reduceCtorEq, Nat.reduceMul, Nat.reduceBEq, Int.reduceEq, if_true, if_false, eq_self, ne_eq, env_bT, T_3, Token.pv_eq, Part.pv_eq, eqT_3]
            exact ⟨(m42, IntKind.wrap .i64 (i39 + 1)), h, (Weak.norm (m := 3) (Nat.le_of_ble_eq_true rfl) ⟨rfl, rfl, rfl, rfl, rfl, trivial⟩ rfl rfl rfl), Nat.lt_succ_self _⟩
          · replace h := bif_f hb50 h
            refine AW.skip ?_
            refine AW.seq ?_
            refine AW.seq ?_
            replace h := Option.bind_eq_some_iff.1 h; obtain ⟨t51, q52, h⟩ := h
            have f53 := sslice_f q52
            have f53e := f53.2.2.2.2
            try simp only [Int.toNat_natCast, Int.toNat_zero, List.drop_zero] at f53e
            have f53l := f53.2.2.1
            try simp only [Int.toNat_natCast, Int.toNat_zero] at f53l
            replace h := Option.bind_eq_some_iff.1 h; obtain ⟨r54, q55, h⟩ := h
            have f56 := c_F15 t51 [91] r54 q55
            try dsimp only at f56
            try simp only [List.map_cons, List.map_nil, Token.pv_eq, Part.pv_eq] at f56
            refine AW.reg hS [(0, .ref 0 0), (4, as_ r12), (8, as_ w44), (46, ab (!r54))] [.var [as_ x1, ai x2, .vec 1 l6.length, .vec 2 l7.length, ai x3, ai x4, ai x5], .row 32 4 (List.map Token.pv l6) true, .row 9 1 (List.map PV.str l7) true] ?_ ?_
            · simp -implicitDefEqProofs only [RUNS, qindex, Nat.reduceAdd, Nat.reduceLeDiff, Nat.reduceSub, reduceIte, Nat.reduceEqDiff, Nat.reduceLT, reduceCtorEq, Nat.reduceMul, Nat.reduceBEq, Int.reduceEq, if_true, if_false, eq_self, ne_eq, env_bT, T_9, Token.pv_eq, Part.pv_eq, f53.1, f53.2.1, f53l, f53.2.2.2.1, f53e, Int.toNat_natCast, Int.toNat_zero, pf_15, f56]
            refine AW.cond (b := !r54) rfl (fun hb57 => ?_) (fun hb57 => ?_)
            · replace h := bif_t hb57 h
              refine AW.seq ?_
              refine AW.reg hS [(2, as_ w44), (3, ab true)] [.var [as_ x1, ai x2, .vec 1 l6.length, .vec 2 l7.length, ai x3, ai x4, ai x5], .row 32 4 (List.map Token.pv l6) true, .row 9 1 (List.map PV.str l7) true] ?_ ?_
              · simp -implicitDefEqProofs only [RUNS, qindex, Nat.reduceAdd, Nat.reduceLeDiff, Nat.reduceSub, reduceIte, Nat.reduceEqDiff, Nat.reduceLT, reduceCtorEq, Nat.reduceMul, Nat.reduceBEq, Int.reduceEq, if_true, if_false, eq_self, ne_eq, env_bT, Token.pv_eq, Part.pv_eq]
              refine AW.ret ?_
              cases h
              show finish _ _ _ _ _ = _
              first | rfl | (simp [finish, resOf, renArgs, toPV, selObjs, sl])
            · replace h := bif_f hb57 h
              refine AW.skip ?_
              refine AW.seq ?_
              have f53e := f53.2.2.2.2
              try simp only [Int.toNat_natCast, Int.toNat_zero, List.drop_zero] at f53e
              have f53l := f53.2.2.1
              try simp only [Int.toNat_natCast, Int.toNat_zero] at f53l
              replace h := Option.bind_eq_some_iff.1 h; obtain ⟨r58, q59, h⟩ := h
              have f60 := c_F51 t51 (!decide (w44 = [124])) r58 q59
              try dsimp only at f60
              refine AW.reg hS [(0, .ref 0 0), (4, as_ r12), (8, as_ w44), (9, ai r58)] [.var [as_ x1, ai x2, .vec 1 l6.length, .vec 2 l7.length, ai x3, ai x4, ai x5], .row 32 4 (List.map Token.pv l6) true, .row 9 1 (List.map PV.str l7) true] ?_ ?_
              · simp -implicitDefEqProofs only [RUNS, qindex, Nat.reduceAdd, Nat.reduceLeDiff, Nat.reduceSub, reduceIte, Nat.reduceEqDiff, Nat.reduceLT, reduceCtorEq, Nat.reduceMul, Nat.reduceBEq, Int.reduceEq, if_true, if_false, eq_self, ne_eq, env_bT, T_4, T_9, Token.pv_eq, Part.pv_eq, f53.1, f53.2.1, f53l, f53.2.2.2.1, f53e, Int.toNat_natCast, Int.toNat_zero, eqT_9, pf_51, f60]
              refine AW.seq ?_
              refine AW.seq ?_
              refine AW.reg hS [(0, .ref 0 0), (4, as_ r12), (8, as_ w44), (9, ai r58), (56, ab (decide (r58 = 0)))] [.var [as_ x1, ai x2, .vec 1 l6.length, .vec 2 l7.length, ai x3, ai x4, ai x5], .row 32 4 (List.map Token.pv l6) true, .row 9 1 (List.map PV.str l7) true] ?_ ?_
              · simp -implicitDefEqProofs only [RUNS, qindex, Nat.reduceAdd, Nat.reduceLeDiff, Nat.reduceSub, reduceIte, Nat.reduceEqDiff, Nat.reduceLT, reduceCtorEq, Nat.reduceMul, Nat.reduceBEq, Int.reduceEq, if_true, if_false, eq_self, ne_eq, env_bT, T_3, Token.pv_eq, Part.pv_eq, eqT_3]
              refine AW.cond (b := decide (r58 = 0)) rfl (fun hb61 => ?_) (fun hb61 => ?_)
              · replace h := bif_t hb61 h
                refine AW.seq ?_
                replace h := Option.bind_eq_some_iff.1 h; obtain ⟨⟨r62, x63, x64⟩, q65, h⟩ := h
                dsimp only at h
                have f66 := c_F26x2 (IntKind.wrap .i64 (x2 + (w44.length : Int))) 47 x1 x2 x3 x4 x5 l6 l7 r62 x63 x64 q65
                try dsimp only at f66
                have e67 : ecall O [.var [as_ x1, ai x2, .vec 1 l6.length, .vec 2 l7.length, ai x3, ai x4, ai x5], .row 32 4 (List.map Token.pv l6) true, .row 9 1 (List.map PV.str l7) true] 26 [.ref 0 0, ai (IntKind.wrap .i64 (x2 + (w44.length : Int))), ai 47] = some (retAV [ab r62], [.var [as_ x1, ai x2, .vec 1 l6.length, .vec 2 l7.length, ai x3, ai x63, ai x64], .row 32 4 (List.map Token.pv l6) true, .row 9 1 (List.map PV.str l7) true]) := ecall_eq rfl rfl rfl f66 rfl rfl rfl
                refine AW.reg hS [(2, as_ []), (3, ab r62)] [.var [as_ x1, ai x2, .vec 1 l6.length, .vec 2 l7.length, ai x3, ai x63, ai x64], .row 32 4 (List.map Token.pv l6) true, .row 9 1 (List.map PV.str l7) true] ?_ ?_
                · simp -implicitDefEqProofs only [RUNS, qindex, Nat.reduceAdd, Nat.reduceLeDiff, Nat.reduceSub, reduceIte, Nat.reduceEqDiff, Nat.reduceLT, reduceCtorEq, Nat.reduceMul, Nat.reduceBEq, Int.reduceEq, if_true, if_false, eq_self, ne_eq, env_bT, T_3, T_9, T_24, T_34, T_37, Token.pv_eq, Part.pv_eq, eqT_3, pf_26, e67]
                refine AW.ret ?_
                cases h
                show finish _ _ _ _ _ = _
                first | rfl | (simp [finish, resOf, renArgs, toPV, selObjs, sl])
              · replace h := bif_f hb61 h
                refine AW.skip ?_
                refine AW.seq ?_
                replace h := Option.bind_eq_some_iff.1 h; obtain ⟨t68, q69, h⟩ := h
                have f70 := sslice_f q69
                have f70e := f70.2.2.2.2
                try simp only [Int.toNat_natCast, Int.toNat_zero, List.drop_zero] at f70e
                have f70l := f70.2.2.1
                try simp only [Int.toNat_natCast, Int.toNat_zero] at f70l
                refine AW.reg hS [(2, as_ t68), (3, ab true)] [.var [as_ x1, ai x2, .vec 1 l6.length, .vec 2 l7.length, ai x3, ai x4, ai x5], .row 32 4 (List.map Token.pv l6) true, .row 9 1 (List.map PV.str l7) true] ?_ ?_
                · simp -implicitDefEqProofs only [RUNS, qindex, Nat.reduceAdd, Nat.reduceLeDiff, Nat.reduceSub, reduceIte, Nat.reduceEqDiff, Nat.reduceLT, reduceCtorEq, Nat.reduceMul, Nat.reduceBEq, Int.reduceEq, if_true, if_false, eq_self, ne_eq, env_bT, T_3, T_9, Token.pv_eq, Part.pv_eq, eqT_3, f70.1, f70.2.1, f70l, f70.2.2.2.1, f70e, Int.toNat_natCast, Int.toNat_zero]
                refine AW.ret ?_
                cases h
                show finish _ _ _ _ _ = _
                first | rfl | (simp [finish, resOf, renArgs, toPV, selObjs, sl])
        · replace h := bif_f hb43 h
          refine AW.exit ?_
          refine AW.seq ?_
          refine AW.reg hS [(2, as_ []), (3, ab true)] [.var [as_ x1, ai x2, .vec 1 l6.length, .vec 2 l7.length, ai x3, ai x4, ai x5], .row 32 4 (List.map Token.pv l6) true, .row 9 1 (List.map PV.str l7) true] ?_ ?_
          · simp -implicitDefEqProofs only [RUNS, qindex, Nat.reduceAdd, Nat.reduceLeDiff, Nat.reduceSub, reduceIte, Nat.reduceEqDiff, Nat.reduceLT, reduceCtorEq, Nat.reduceMul, Nat.reduceBEq, Int.reduceEq, if_true, if_false, eq_self, ne_eq, env_bT, Token.pv_eq, Part.pv_eq]
          refine AW.ret ?_
          cases h
          show finish _ _ _ _ _ = _
          first | rfl | (simp [finish, resOf, renArgs, toPV, selObjs, sl])

set_option maxHeartbeats 4000000 in
theorem g_F31 {O : Orc} (hS : Sound env O) (hpf : O.pf = pfn) (c_L_IndexByte : C_L_IndexByte O) (c_F25x1 : C_F25x1 O) (t1 : Token) (touches2 : Bool) (x3 : Str) (x4 : Int) (x5 : Int) (x6 : Int) (x7 : Int) (l8 : List Token) (l9 : List Str) (r10 : Bool) (x11 : Int) (x12 : Int) (o13 : List Token) (h : F31 t1 touches2 x3 x4 x5 x6 x7 l8 l9 = some (r10, x11, x12, o13)) : Good env 31 [.ref 0 0, .pv (.agg [.int .i64 t1.kind_, .int .i64 t1.at_, .str t1.text_, .str t1.quoted_]), ab touches2] [.var [as_ x3, ai x4, .vec 1 l8.length, .vec 2 l9.length, ai x5, ai x6, ai x7], .row 32 4 (List.map Token.pv l8) true, .row 9 1 (List.map PV.str l9) true] [ab r10] [.var [as_ x3, ai x4, .vec 1 o13.length, .vec 2 l9.length, ai x5, ai x11, ai x12], .row 32 4 (List.map Token.pv o13) true, .row 9 1 (List.map PV.str l9) true] := by
  have pf_13 : O.pf 13 = true := by rw [hpf]; rfl
  have pf_25 : O.pf 25 = false := by rw [hpf]; rfl
  refine Good.start (fn := Tryz.f31) (N := 43) fn_31 rfl rfl (by simp) [] _ rfl rfl ?_
  rw [F31] at h
  refine AW.seq ?_
  refine AW.reg hS [(0, .ref 0 0), (2, ab touches2), (4, .ref 3 0)] [.var [as_ x3, ai x4, .vec 1 l8.length, .vec 2 l9.length, ai x5, ai x6, ai x7], .row 32 4 (List.map Token.pv l8) true, .row 9 1 (List.map PV.str l9) true, .var [ai t1.kind_, ai t1.at_, as_ t1.text_, as_ t1.quoted_]] ?_ ?_
  · simp -implicitDefEqProofs only [RUNS, qindex, Nat.reduceAdd, Nat.reduceLeDiff, Nat.reduceSub, reduceIte, Nat.reduceEqDiff, Nat.reduceLT, reduceCtorEq, Nat.reduceMul, Nat.reduceBEq, Int.reduceEq, if_true, if_false, eq_self, ne_eq, env_bT, T_32, Token.pv_eq, Part.pv_eq]
  refine AW.seq ?_
  replace h := Option.bind_eq_some_iff.1 h; obtain ⟨c14, q15, h⟩ := h
  have f16 := sidx_g (guardO_t q15)
  replace h := Option.bind_eq_some_iff.1 h; obtain ⟨n17, q18, h⟩ := h
  have f19 := fun hg => c_L_IndexByte [36, 96] c14 n17 (guardO_t q18 hg)
  try dsimp only at f19
  try simp only [List.map_cons, List.map_nil, Token.pv_eq, Part.pv_eq] at f19
  refine AW.reg hS [(0, .ref 0 0), (2, ab touches2), (4, .ref 3 0), (7, ab (decide (t1.kind_ = 1) || ((decide (t1.kind_ = 2) && !decide (t1.text_ = [])) && decide (0 ≤ n17))))] [.var [as_ x3, ai x4, .vec 1 l8.length, .vec 2 l9.length, ai x5, ai x6, ai x7], .row 32 4 (List.map Token.pv l8) true, .row 9 1 (List.map PV.str l9) true, .var [ai t1.kind_, ai t1.at_, as_ t1.text_, as_ t1.quoted_]] ?_ ?_
  · clear h
    (simp -implicitDefEqProofs only [RUNS, qindex, Nat.reduceAdd, Nat.reduceLeDiff, Nat.reduceSub, reduceIte, Nat.reduceEqDiff, Nat.reduceLT, reduceCtorEq, Nat.reduceMul, Nat.reduceBEq, Int.reduceEq, if_true, if_false, eq_self, ne_eq, env_bT, T_3, T_5, T_9, T_32, Token.pv_eq, Part.pv_eq, eqT_3, eqT_9, f16.1, f16.2.1, f16.2.2, pf_13, f19]); repeat' (split <;> rename_i hb <;> (try simp only [HBS, ge_iff_le, gt_iff_lt] at hb) <;> simp -implicitDefEqProofs only [RUNS, qindex, Nat.reduceAdd, Nat.reduceLeDiff, Nat.reduceSub, reduceIte, Nat.reduceEqDiff, Nat.reduceLT, reduceCtorEq, Nat.reduceMul, Nat.reduceBEq, Int.reduceEq, if_true, if_false, eq_self, ne_eq, env_bT, T_3, T_5, T_9, T_32, Token.pv_eq, Part.pv_eq, eqT_3, eqT_9, f16.1, f16.2.1, f16.2.2, pf_13, f19, *, decide_true, decide_false, Decidable.not_not, not_false_eq_true, not_true_eq_false])
    all_goals (first | (simp only [BOOLS]; done) | (simp [*]; done) | ((try simp only [CLOS, beq_iff_eq, bne_iff_ne, ne_eq] at *) <;> omega) | (simp_all; done) | (simp_all <;> omega))
  refine AW.seq ?_
  refine AW.seq ?_
  refine AW.cases ((touches2 && (decide (t1.kind_ = 1) || ((decide (t1.kind_ = 2) && !decide (t1.text_ = [])) && decide (0 ≤ n17))))) (fun hsp3 => ?_) (fun hsp3 => ?_)
  · replace h := bif_t hsp3 h
    replace h := Option.bind_eq_some_iff.1 h; obtain ⟨⟨r20, x21, x22, o23⟩, q24, h⟩ := h
    dsimp only at h
    have f25 := c_F25x1 (Token.mk 2 t1.at_ [94] []) x3 x4 x5 x6 x7 l8 l9 r20 x21 x22 o23 q24
    try dsimp only at f25
    have e26 : ecall O [.var [as_ x3, ai x4, .vec 1 l8.length, .vec 2 l9.length, ai x5, ai x6, ai x7], .row 32 4 (List.map Token.pv l8) true, .row 9 1 (List.map PV.str l9) true, .var [ai t1.kind_, ai t1.at_, as_ t1.text_, as_ t1.quoted_]] 25 [.ref 0 0, .pv (.agg [.int .i64 2, .int .i64 t1.at_, .str [94], .str []])] = some (retAV [ab r20], [.var [as_ x3, ai x4, .vec 1 o23.length, .vec 2 l9.length, ai x5, ai x21, ai x22], .row 32 4 (List.map Token.pv o23) true, .row 9 1 (List.map PV.str l9) true, .var [ai t1.kind_, ai t1.at_, as_ t1.text_, as_ t1.quoted_]]) := ecall_eq rfl rfl rfl f25 rfl rfl rfl
    refine AW.reg hS [(0, .ref 0 0), (4, .ref 3 0), (39, ab (!r20))] [.var [as_ x3, ai x4, .vec 1 o23.length, .vec 2 l9.length, ai x5, ai x21, ai x22], .row 32 4 (List.map Token.pv o23) true, .row 9 1 (List.map PV.str l9) true, .var [ai t1.kind_, ai t1.at_, as_ t1.text_, as_ t1.quoted_]] ?_ ?_
    · clear h
      (simp -implicitDefEqProofs only [RUNS, qindex, Nat.reduceAdd, Nat.reduceLeDiff, Nat.reduceSub, reduceIte, Nat.reduceEqDiff, Nat.reduceLT, reduceCtorEq, Nat.reduceMul, Nat.reduceBEq, Int.reduceEq, if_true, if_false, eq_self, ne_eq, env_bT, T_3, T_32, T_34, Token.pv_eq, Part.pv_eq, hsp3, ownT_32, pf_25, e26]); repeat' (split <;> rename_i hb <;> (try simp only [HBS, ge_iff_le, gt_iff_lt] at hb) <;> simp -implicitDefEqProofs only [RUNS, qindex, Nat.reduceAdd, Nat.reduceLeDiff, Nat.reduceSub, reduceIte, Nat.reduceEqDiff, Nat.reduceLT, reduceCtorEq, Nat.reduceMul, Nat.reduceBEq, Int.reduceEq, if_true, if_false, eq_self, ne_eq, env_bT, T_3, T_32, T_34, Token.pv_eq, Part.pv_eq, hsp3, ownT_32, pf_25, e26, *, decide_true, decide_false, Decidable.not_not, not_false_eq_true, not_true_eq_false])
      all_goals (first | (simp only [BOOLS]; done) | (simp [*]; done) | ((try simp only [CLOS, beq_iff_eq, bne_iff_ne, ne_eq] at *) <;> omega) | (simp_all; done) | (simp_all <;> omega))
    refine AW.cond (b := !r20) rfl (fun hb27 => ?_) (fun hb27 => ?_)
    · replace h := bif_t hb27 h
      refine AW.seq ?_
      refine AW.reg hS [(6, ab false)] [.var [as_ x3, ai x4, .vec 1 o23.length, .vec 2 l9.length, ai x5, ai x21, ai x22], .row 32 4 (List.map Token.pv o23) true, .row 9 1 (List.map PV.str l9) true, .var [ai t1.kind_, ai t1.at_, as_ t1.text_, as_ t1.quoted_]] ?_ ?_
      · simp -implicitDefEqProofs only [RUNS, qindex, Nat.reduceAdd, Nat.reduceLeDiff, Nat.reduceSub, reduceIte, Nat.reduceEqDiff, Nat.reduceLT, reduceCtorEq, Nat.reduceMul, Nat.reduceBEq, Int.reduceEq, if_true, if_false, eq_self, ne_eq, env_bT, Token.pv_eq, Part.pv_eq]
      refine AW.ret ?_
      cases h
      show finish _ _ _ _ _ = _
      first | rfl | (simp [finish, resOf, renArgs, toPV, selObjs, sl])
    · replace h := bif_f hb27 h
      refine AW.skip ?_
      refine AW.seq ?_
      replace h := Option.bind_eq_some_iff.1 h; obtain ⟨⟨r28, x29, x30, o31⟩, q32, h⟩ := h
      dsimp only at h
      have f33 := c_F25x1 t1 x3 x4 x5 x21 x22 o23 l9 r28 x29 x30 o31 q32
      try dsimp only at f33
      have e34 : ecall O [.var [as_ x3, ai x4, .vec 1 o23.length, .vec 2 l9.length, ai x5, ai x21, ai x22], .row 32 4 (List.map Token.pv o23) true, .row 9 1 (List.map PV.str l9) true, .var [ai t1.kind_, ai t1.at_, as_ t1.text_, as_ t1.quoted_]] 25 [.ref 0 0, .pv (.agg [.int .i64 t1.kind_, .int .i64 t1.at_, .str t1.text_, .str t1.quoted_])] = some (retAV [ab r28], [.var [as_ x3, ai x4, .vec 1 o31.length, .vec 2 l9.length, ai x5, ai x29, ai x30], .row 32 4 (List.map Token.pv o31) true, .row 9 1 (List.map PV.str l9) true, .var [ai t1.kind_, ai t1.at_, as_ t1.text_, as_ t1.quoted_]]) := ecall_eq rfl rfl rfl f33 rfl rfl rfl
      refine AW.reg hS [(6, ab r28)] [.var [as_ x3, ai x4, .vec 1 o31.length, .vec 2 l9.length, ai x5, ai x29, ai x30], .row 32 4 (List.map Token.pv o31) true, .row 9 1 (List.map PV.str l9) true, .var [ai t1.kind_, ai t1.at_, as_ t1.text_, as_ t1.quoted_]] ?_ ?_
      · simp -implicitDefEqProofs only [RUNS, qindex, Nat.reduceAdd, Nat.reduceLeDiff, Nat.reduceSub, reduceIte, Nat.reduceEqDiff, Nat.reduceLT, reduceCtorEq, Nat.reduceMul, Nat.reduceBEq, Int.reduceEq, if_true, if_false, eq_self, ne_eq, env_bT, T_32, T_34, Token.pv_eq, Part.pv_eq, pf_25, e34]
      refine AW.ret ?_
      cases h
      show finish _ _ _ _ _ = _
      first | rfl | (simp [finish, resOf, renArgs, toPV, selObjs, sl])
  · replace h := bif_f hsp3 h
    refine AW.reg hS [(0, .ref 0 0), (4, .ref 3 0), (39, ab false)] [.var [as_ x3, ai x4, .vec 1 l8.length, .vec 2 l9.length, ai x5, ai x6, ai x7], .row 32 4 (List.map Token.pv l8) true, .row 9 1 (List.map PV.str l9) true, .var [ai t1.kind_, ai t1.at_, as_ t1.text_, as_ t1.quoted_]] ?_ ?_
    · clear h
      (simp -implicitDefEqProofs only [RUNS, qindex, Nat.reduceAdd, Nat.reduceLeDiff, Nat.reduceSub, reduceIte, Nat.reduceEqDiff, Nat.reduceLT, reduceCtorEq, Nat.reduceMul, Nat.reduceBEq, Int.reduceEq, if_true, if_false, eq_self, ne_eq, env_bT, T_3, T_32, T_34, Token.pv_eq, Part.pv_eq, hsp3]); repeat' (split <;> rename_i hb <;> (try simp only [HBS, ge_iff_le, gt_iff_lt] at hb) <;> simp -implicitDefEqProofs only [RUNS, qindex, Nat.reduceAdd, Nat.reduceLeDiff, Nat.reduceSub, reduceIte, Nat.reduceEqDiff, Nat.reduceLT, reduceCtorEq, Nat.reduceMul, Nat.reduceBEq, Int.reduceEq, if_true, if_false, eq_self, ne_eq, env_bT, T_3, T_32, T_34, Token.pv_eq, Part.pv_eq, hsp3, *, decide_true, decide_false, Decidable.not_not, not_false_eq_true, not_true_eq_false])
      all_goals (first | (simp only [BOOLS]; done) | (simp [*]; done) | ((try simp only [CLOS, beq_iff_eq, bne_iff_ne, ne_eq] at *) <;> omega) | (simp_all; done) | (simp_all <;> omega))
    refine AW.cond (b := false) rfl (fun hb => absurd hb (by decide)) (fun _ => ?_)
    refine AW.skip ?_
    refine AW.seq ?_
    replace h := Option.bind_eq_some_iff.1 h; obtain ⟨⟨r21, x22, x23, o24⟩, q25, h⟩ := h
    dsimp only at h
    have f26 := c_F25x1 t1 x3 x4 x5 x6 x7 l8 l9 r21 x22 x23 o24 q25
    try dsimp only at f26
    have e27 : ecall O [.var [as_ x3, ai x4, .vec 1 l8.length, .vec 2 l9.length, ai x5, ai x6, ai x7], .row 32 4 (List.map Token.pv l8) true, .row 9 1 (List.map PV.str l9) true, .var [ai t1.kind_, ai t1.at_, as_ t1.text_, as_ t1.quoted_]] 25 [.ref 0 0, .pv (.agg [.int .i64 t1.kind_, .int .i64 t1.at_, .str t1.text_, .str t1.quoted_])] = some (retAV [ab r21], [.var [as_ x3, ai x4, .vec 1 o24.length, .vec 2 l9.length, ai x5, ai x22, ai x23], .row 32 4 (List.map Token.pv o24) true, .row 9 1 (List.map PV.str l9) true, .var [ai t1.kind_, ai t1.at_, as_ t1.text_, as_ t1.quoted_]]) := ecall_eq rfl rfl rfl f26 rfl rfl rfl
    refine AW.reg hS [(6, ab r21)] [.var [as_ x3, ai x4, .vec 1 o24.length, .vec 2 l9.length, ai x5, ai x22, ai x23], .row 32 4 (List.map Token.pv o24) true, .row 9 1 (List.map PV.str l9) true, .var [ai t1.kind_, ai t1.at_, as_ t1.text_, as_ t1.quoted_]] ?_ ?_
    · simp -implicitDefEqProofs only [RUNS, qindex, Nat.reduceAdd, Nat.reduceLeDiff, Nat.reduceSub, reduceIte, Nat.reduceEqDiff, Nat.reduceLT, reduceCtorEq, Nat.reduceMul, Nat.reduceBEq, Int.reduceEq, if_true, if_false, eq_self, ne_eq, env_bT, T_32, T_34, Token.pv_eq, Part.pv_eq, pf_25, e27]
    refine AW.ret ?_
    cases h
    show finish _ _ _ _ _ = _
    first | rfl | (simp [finish, resOf, renArgs, toPV, selObjs, sl])

set_option maxHeartbeats 4000000 in
theorem g_F52 {O : Orc} (hS : Sound env O) (hpf : O.pf = pfn) (c1 : Int) (r2 : Bool) (h : F52 c1 = some r2) : Good env 52 [.pv (.int .u8 c1)] [] [ab r2] [] := by
  refine Good.start (fn := Tryz.f52) (N := 33) fn_52 rfl rfl (by simp) [] _ rfl rfl ?_
  rw [F52] at h
  refine AW.seq ?_
  refine AW.reg hS [(0, .pv (.int .u8 c1))] [] ?_ ?_
  · simp -implicitDefEqProofs only [RUNS, qindex, Nat.reduceAdd, Nat.reduceLeDiff, Nat.reduceSub, reduceIte, Nat.reduceEqDiff, Nat.reduceLT, reduceCtorEq, Nat.reduceMul, Nat.reduceBEq, Int.reduceEq, if_true, if_false, eq_self, ne_eq, env_bT, Token.pv_eq, Part.pv_eq]
  refine AW.seq ?_
  refine AW.reg hS [(2, ab (((((decide (97 ≤ c1) && decide (c1 ≤ 122)) || (decide (65 ≤ c1) && decide (c1 ≤ 90))) || (decide (48 ≤ c1) && decide (c1 ≤ 57))) || decide (c1 = 95)) || decide (c1 = 42)))] [] ?_ ?_
  · clear h
    (simp -implicitDefEqProofs only [RUNS, qindex, Nat.reduceAdd, Nat.reduceLeDiff, Nat.reduceSub, reduceIte, Nat.reduceEqDiff, Nat.reduceLT, reduceCtorEq, Nat.reduceMul, Nat.reduceBEq, Int.reduceEq, if_true, if_false, eq_self, ne_eq, env_bT, T_5, Token.pv_eq, Part.pv_eq, eqT_5]); repeat' (split <;> rename_i hb <;> (try simp only [HBS, ge_iff_le, gt_iff_lt] at hb) <;> simp -implicitDefEqProofs only [RUNS, qindex, Nat.reduceAdd, Nat.reduceLeDiff, Nat.reduceSub, reduceIte, Nat.reduceEqDiff, Nat.reduceLT, reduceCtorEq, Nat.reduceMul, Nat.reduceBEq, Int.reduceEq, if_true, if_false, eq_self, ne_eq, env_bT, T_5, Token.pv_eq, Part.pv_eq, eqT_5, *, decide_true, decide_false, Decidable.not_not, not_false_eq_true, not_true_eq_false])
    all_goals (first | (simp only [BOOLS]; done) | (simp [*]; done) | ((try simp only [CLOS, beq_iff_eq, bne_iff_ne, ne_eq] at *) <;> omega) | (simp_all; done) | (simp_all <;> omega))
  refine AW.ret ?_
  cases h
  show finish _ _ _ _ _ = _
  first | rfl | (simp [finish, resOf, renArgs, toPV, selObjs, sl])

set_option maxHeartbeats 4000000 in
theorem g_F32 {O : Orc} (hS : Sound env O) (hpf : O.pf = pfn) (c_F52 : C_F52 O) (c_F26x2 : C_F26x2 O) (c_L_Repeat : C_L_Repeat O) (c_F25x1 : C_F25x1 O) (x1 : Str) (x2 : Int) (x3 : Int) (x4 : Int) (x5 : Int) (l6 : List Token) (l7 : List Str) (r8 : Bool) (x9 : Int) (x10 : Int) (x11 : Int) (o12 : List Token) (h : F32 x1 x2 x3 x4 x5 l6 l7 = some (r8, x9, x10, x11, o12)) : Good env 32 [.ref 0 0] [.var [as_ x1, ai x2, .vec 1 l6.length, .vec 2 l7.length, ai x3, ai x4, ai x5], .row 32 4 (List.map Token.pv l6) true, .row 9 1 (List.map PV.str l7) true] [ab r8] [.var [as_ x1, ai x9, .vec 1 o12.length, .vec 2 l7.length, ai x3, ai x10, ai x11], .row 32 4 (List.map Token.pv o12) true, .row 9 1 (List.map PV.str l7) true] := by
  have pf_25 : O.pf 25 = false := by rw [hpf]; rfl
  have pf_26 : O.pf 26 = false := by rw [hpf]; rfl
  have pf_50 : O.pf 50 = true := by rw [hpf]; rfl
  have pf_52 : O.pf 52 = true := by rw [hpf]; rfl
  refine Good.start (fn := Tryz.f32) (N := 65) fn_32 rfl rfl (by simp) [] _ rfl rfl ?_
  rw [F32] at h
  refine AW.seq ?_
  refine AW.reg hS [(0, .ref 0 0)] [.var [as_ x1, ai x2, .vec 1 l6.length, .vec 2 l7.length, ai x3, ai x4, ai x5], .row 32 4 (List.map Token.pv l6) true, .row 9 1 (List.map PV.str l7) true] ?_ ?_
  · simp -implicitDefEqProofs only [RUNS, qindex, Nat.reduceAdd, Nat.reduceLeDiff, Nat.reduceSub, reduceIte, Nat.reduceEqDiff, Nat.reduceLT, reduceCtorEq, Nat.reduceMul, Nat.reduceBEq, Int.reduceEq, if_true, if_false, eq_self, ne_eq, env_bT, Token.pv_eq, Part.pv_eq]
  refine AW.seq ?_
  refine AW.reg hS [(0, .ref 0 0), (3, ai x2)] [.var [as_ x1, ai x2, .vec 1 l6.length, .vec 2 l7.length, ai x3, ai x4, ai x5], .row 32 4 (List.map Token.pv l6) true, .row 9 1 (List.map PV.str l7) true] ?_ ?_
  · simp -implicitDefEqProofs only [RUNS, qindex, Nat.reduceAdd, Nat.reduceLeDiff, Nat.reduceSub, reduceIte, Nat.reduceEqDiff, Nat.reduceLT, reduceCtorEq, Nat.reduceMul, Nat.reduceBEq, Int.reduceEq, if_true, if_false, eq_self, ne_eq, env_bT, T_3, T_37, Token.pv_eq, Part.pv_eq]
  refine AW.seq ?_
  refine AW.block ?_
  refine AW.weak (Weak.slots (L := [(0, .ref 0 0), (3, ai x2)]) ⟨rfl, rfl, trivial⟩) ?_
  refine AW.loopI (α := Nat × Int) (fun (_, x13) => ⟨sl [(0, .ref 0 0), (3, ai x2)], 65, [.var [as_ x1, ai x13, .vec 1 l6.length, .vec 2 l7.length, ai x3, ai x4, ai x5], .row 32 4 (List.map Token.pv l6) true, .row 9 1 (List.map PV.str l7) true]⟩) (fun x => iter (F32_b1 x1 x2 x3 x4 x5 l6 l7) x.1 x.2 = some (r8, x9, x10, x11, o12)) (fun x => x.1) (BIG, x2) h ?_
  clear h
  intro ⟨n44, x13⟩ h
  replace h := iter_some h; obtain ⟨m16, rfl, h⟩ := h
  rw [F32_b1] at h
  try dsimp only at h
  show AW _ _ _ _ ⟨sl [(0, .ref 0 0), (3, ai x2)], 65, [.var [as_ x1, ai x13, .vec 1 l6.length, .vec 2 l7.length, ai x3, ai x4, ai x5], .row 32 4 (List.map Token.pv l6) true, .row 9 1 (List.map PV.str l7) true]⟩
  refine AW.seq ?_
  refine AW.seq ?_
  replace h := Option.bind_eq_some_iff.1 h; obtain ⟨c17, q18, h⟩ := h
  have f19 := sidx_g (guardO_t q18)
  replace h := Option.bind_eq_some_iff.1 h; obtain ⟨r20, q21, h⟩ := h
  have f22 := fun hg => c_F52 c17 r20 (guardO_t q21 hg)
  try dsimp only at f22
  refine AW.dreg mixed hS (hpf ▸ (by kernel_rfl : orderOK pfn _ = true)) [(0, .ref 0 0), (3, ai x2), (30, ab (decide (x13 < (x1.length : Int)) && r20))] [.var [as_ x1, ai x13, .vec 1 l6.length, .vec 2 l7.length, ai x3, ai x4, ai x5], .row 32 4 (List.map Token.pv l6) true, .row 9 1 (List.map PV.str l7) true] ?_ ?_
  · clear h
    (simp -implicitDefEqProofs only [RUNS, qindex, Nat.reduceAdd, Nat.reduceLeDiff, Nat.reduceSub, reduceIte, Nat.reduceEqDiff, Nat.reduceLT, reduceCtorEq, Nat.reduceMul, Nat.reduceBEq, Int.reduceEq, if_true, if_false, eq_self, ne_eq, env_bT, T_3, T_5, T_9, T_37, Token.pv_eq, Part.pv_eq, eqT_3, f19.1, f19.2.1, f19.2.2, pf_52, f22]); repeat' (split <;> rename_i hb <;> (try simp only [HBS, ge_iff_le, gt_iff_lt] at hb) <;> simp -implicitDefEqProofs only [RUNS, qindex, Nat.reduceAdd, Nat.reduceLeDiff, Nat.reduceSub, reduceIte, Nat.reduceEqDiff, Nat.reduceLT, reduceCtorEq, Nat.reduceMul, Nat.reduceBEq, Int.reduceEq, if_true, if_false, eq_self, ne_eq, env_bT, T_3, T_5, T_9, T_37, Token.pv_eq, Part.pv_eq, eqT_3, f19.1, f19.2.1, f19.2.2, pf_52, f22, *, decide_true, decide_false, Decidable.not_not, not_false_eq_true, not_true_eq_false])
    all_goals (first | (simp only [BOOLS]; done) | (simp [*]; done) | ((try simp only [CLOS, beq_iff_eq, bne_iff_ne, ne_eq] at *) <;> omega) | (simp_all; done) | (simp_all <;> omega))
  refine AW.cond (b := (decide (x13 < (x1.length : Int)) && r20)) rfl (fun hb23 => ?_) (fun hb23 => ?_)
  · replace h := bif_t hb23 h
    refine AW.skip ?_
    refine AW.block ?_
    refine AW.reg hS [(0, .ref 0 0), (3, ai x2)] [.var [as_ x1, ai (IntKind.wrap .i64 (x13 + 1)), .vec 1 l6.length, .vec 2 l7.length, ai x3, ai x4, ai x5], .row 32 4 (List.map Token.pv l6) true, .row 9 1 (List.map PV.str l7) true] ?_ ?_
    · simp -implicitDefEqProofs only [RUNS, qindex, Nat.reduceAdd, Nat.reduceLeDiff, Nat.reduceSub, reduceIte, Nat.reduceEqDiff, Nat.reduceLT, reduceCtorEq, Nat.reduceMul, Nat.reduceBEq, Int.reduceEq, if_true, if_false, eq_self, ne_eq, env_bT, T_3, T_37, Token.pv_eq, Part.pv_eq, eqT_3]
    exact ⟨(m16, IntKind.wrap .i64 (x13 + 1)), h, (Weak.norm (m := 3) (Nat.le_of_ble_eq_true rfl) ⟨rfl, rfl, trivial⟩ rfl rfl rfl), Nat.lt_succ_self _⟩
  · replace h := bif_f hb23 h
    refine AW.exit ?_
    refine AW.seq ?_
    refine AW.seq ?_
    refine AW.reg hS [(0, .ref 0 0), (3, ai x2), (43, ab (decide (x13 = x2)))] [.var [as_ x1, ai x13, .vec 1 l6.length, .vec 2 l7.length, ai x3, ai x4, ai x5], .row 32 4 (List.map Token.pv l6) true, .row 9 1 (List.map PV.str l7) true] ?_ ?_
    · simp -implicitDefEqProofs only [RUNS, qindex, Nat.reduceAdd, Nat.reduceLeDiff, Nat.reduceSub, reduceIte, Nat.reduceEqDiff, Nat.reduceLT, reduceCtorEq, Nat.reduceMul, Nat.reduceBEq, Int.reduceEq, if_true, if_false, eq_self, ne_eq, env_bT, T_3, T_37, Token.pv_eq, Part.pv_eq, eqT_3]
    refine AW.cond (b := decide (x13 = x2)) rfl (fun hb24 => ?_) (fun hb24 => ?_)
    · replace h := bif_t hb24 h
      refine AW.seq ?_
      replace h := Option.bind_eq_some_iff.1 h; obtain ⟨⟨r25, x26, x27⟩, q28, h⟩ := h
      dsimp only at h
      have f29 := c_F26x2 x2 47 x1 x13 x3 x4 x5 l6 l7 r25 x26 x27 q28
      try dsimp only at f29
      have e30 : ecall O [.var [as_ x1, ai x13, .vec 1 l6.length, .vec 2 l7.length, ai x3, ai x4, ai x5], .row 32 4 (List.map Token.pv l6) true, .row 9 1 (List.map PV.str l7) true] 26 [.ref 0 0, ai x2, ai 47] = some (retAV [ab r25], [.var [as_ x1, ai x13, .vec 1 l6.length, .vec 2 l7.length, ai x3, ai x26, ai x27], .row 32 4 (List.map Token.pv l6) true, .row 9 1 (List.map PV.str l7) true]) := ecall_eq rfl rfl rfl f29 rfl rfl rfl
      refine AW.reg hS [(2, ab r25)] [.var [as_ x1, ai x13, .vec 1 l6.length, .vec 2 l7.length, ai x3, ai x26, ai x27], .row 32 4 (List.map Token.pv l6) true, .row 9 1 (List.map PV.str l7) true] ?_ ?_
      · simp -implicitDefEqProofs only [RUNS, qindex, Nat.reduceAdd, Nat.reduceLeDiff, Nat.reduceSub, reduceIte, Nat.reduceEqDiff, Nat.reduceLT, reduceCtorEq, Nat.reduceMul, Nat.reduceBEq, Int.reduceEq, if_true, if_false, eq_self, ne_eq, env_bT, T_3, T_24, T_34, Token.pv_eq, Part.pv_eq, pf_26, e30]
      refine AW.ret ?_
      cases h
      show finish _ _ _ _ _ = _
      first | rfl | (simp [finish, resOf, renArgs, toPV, selObjs, sl])
    · replace h := bif_f hb24 h
      refine AW.skip ?_
      refine AW.seq ?_
      replace h := Option.bind_eq_some_iff.1 h; obtain ⟨t31, q32, h⟩ := h
      have f33 := sslice_f q32
      have f33e := f33.2.2.2.2
      try simp only [Int.toNat_natCast, Int.toNat_zero, List.drop_zero] at f33e
      have f33l := f33.2.2.1
      try simp only [Int.toNat_natCast, Int.toNat_zero] at f33l
      refine AW.dreg mixed hS (hpf ▸ (by kernel_rfl : orderOK pfn _ = true)) [(0, .ref 0 0), (3, ai x2), (4, as_ t31)] [.var [as_ x1, ai x13, .vec 1 l6.length, .vec 2 l7.length, ai x3, ai x4, ai x5], .row 32 4 (List.map Token.pv l6) true, .row 9 1 (List.map PV.str l7) true] ?_ ?_
      · simp -implicitDefEqProofs only [RUNS, qindex, Nat.reduceAdd, Nat.reduceLeDiff, Nat.reduceSub, reduceIte, Nat.reduceEqDiff, Nat.reduceLT, reduceCtorEq, Nat.reduceMul, Nat.reduceBEq, Int.reduceEq, if_true, if_false, eq_self, ne_eq, env_bT, T_3, T_9, T_37, Token.pv_eq, Part.pv_eq, f33.1, f33.2.1, f33l, f33.2.2.2.1, f33e, Int.toNat_natCast, Int.toNat_zero]
      refine AW.seq ?_
      replace h := Option.bind_eq_some_iff.1 h; obtain ⟨t34, q35, h⟩ := h
      have f36 := c_L_Repeat [48] (t31.length : Int) t34 q35
      try dsimp only at f36
      try simp only [List.map_cons, List.map_nil, Token.pv_eq, Part.pv_eq] at f36
      replace h := Option.bind_eq_some_iff.1 h; obtain ⟨⟨r37, x38, x39, o40⟩, q41, h⟩ := h
      dsimp only at h
      have f42 := c_F25x1 (Token.mk 1 x2 t31 t34) x1 x13 x3 x4 x5 l6 l7 r37 x38 x39 o40 q41
      try dsimp only at f42
      have e43 : ecall O [.var [as_ x1, ai x13, .vec 1 l6.length, .vec 2 l7.length, ai x3, ai x4, ai x5], .row 32 4 (List.map Token.pv l6) true, .row 9 1 (List.map PV.str l7) true] 25 [.ref 0 0, .pv (.agg [.int .i64 1, .int .i64 x2, .str t31, .str t34])] = some (retAV [ab r37], [.var [as_ x1, ai x13, .vec 1 o40.length, .vec 2 l7.length, ai x3, ai x38, ai x39], .row 32 4 (List.map Token.pv o40) true, .row 9 1 (List.map PV.str l7) true]) := ecall_eq rfl rfl rfl f42 rfl rfl rfl
      refine AW.reg hS [(2, ab r37)] [.var [as_ x1, ai x13, .vec 1 o40.length, .vec 2 l7.length, ai x3, ai x38, ai x39], .row 32 4 (List.map Token.pv o40) true, .row 9 1 (List.map PV.str l7) true] ?_ ?_
      · simp -implicitDefEqProofs only [RUNS, qindex, Nat.reduceAdd, Nat.reduceLeDiff, Nat.reduceSub, reduceIte, Nat.reduceEqDiff, Nat.reduceLT, reduceCtorEq, Nat.reduceMul, Nat.reduceBEq, Int.reduceEq, if_true, if_false, eq_self, ne_eq, env_bT, T_3, T_9, T_32, T_34, Token.pv_eq, Part.pv_eq, pf_50, f36, ownT_32, pf_25, e43]
      refine AW.ret ?_
      cases h
      show finish _ _ _ _ _ = _
      first | rfl | (simp [finish, resOf, renArgs, toPV, selObjs, sl])

set_option maxHeartbeats 4000000 in
theorem g_F17 {O : Orc} (hS : Sound env O) (hpf : O.pf = pfn) (c_F29 : C_F29 O) (c_F30 : C_F30 O) (c_F31 : C_F31 O) (c_F32 : C_F32 O) (c_F28x1 : C_F28x1 O) (x1 : Str) (x2 : Int) (x3 : Int) (x4 : Int) (x5 : Int) (l6 : List Token) (l7 : List Str) (r8 : Bool) (x9 : Int) (x10 : Int) (x11 : Int) (o12 : List Token) (h : F17 x1 x2 x3 x4 x5 l6 l7 = some (r8, x9, x10, x11, o12)) : Good env 17 [.ref 0 0] [.var [as_ x1, ai x2, .vec 1 l6.length, .vec 2 l7.length, ai x3, ai x4, ai x5], .row 32 4 (List.map Token.pv l6) true, .row 9 1 (List.map PV.str l7) true] [ab r8] [.var [as_ x1, ai x9, .vec 1 o12.length, .vec 2 l7.length, ai x3, ai x10, ai x11], .row 32 4 (List.map Token.pv o12) true, .row 9 1 (List.map PV.str l7) true] := by
  have pf_28 : O.pf 28 = false := by rw [hpf]; rfl
  have pf_29 : O.pf 29 = false := by rw [hpf]; rfl
  have pf_30 : O.pf 30 = false := by rw [hpf]; rfl
  have pf_31 : O.pf 31 = false := by rw [hpf]; rfl
  have pf_32 : O.pf 32 = false := by rw [hpf]; rfl
  refine Good.start (fn := Tryz.f17) (N := 64) fn_17 rfl rfl (by simp) [] _ rfl rfl ?_
  rw [F17] at h
  refine AW.seq ?_
  refine AW.reg hS [(0, .ref 0 0)] [.var [as_ x1, ai x2, .vec 1 l6.length, .vec 2 l7.length, ai x3, ai x4, ai x5], .row 32 4 (List.map Token.pv l6) true, .row 9 1 (List.map PV.str l7) true] ?_ ?_
  · simp -implicitDefEqProofs only [RUNS, qindex, Nat.reduceAdd, Nat.reduceLeDiff, Nat.reduceSub, reduceIte, Nat.reduceEqDiff, Nat.reduceLT, reduceCtorEq, Nat.reduceMul, Nat.reduceBEq, Int.reduceEq, if_true, if_false, eq_self, ne_eq, env_bT, Token.pv_eq, Part.pv_eq]
  refine AW.seq ?_
  refine AW.reg hS [(0, .ref 0 0), (3, ai x2)] [.var [as_ x1, ai x2, .vec 1 l6.length, .vec 2 l7.length, ai x3, ai x4, ai x5], .row 32 4 (List.map Token.pv l6) true, .row 9 1 (List.map PV.str l7) true] ?_ ?_
  · simp -implicitDefEqProofs only [RUNS, qindex, Nat.reduceAdd, Nat.reduceLeDiff, Nat.reduceSub, reduceIte, Nat.reduceEqDiff, Nat.reduceLT, reduceCtorEq, Nat.reduceMul, Nat.reduceBEq, Int.reduceEq, if_true, if_false, eq_self, ne_eq, env_bT, T_3, T_37, Token.pv_eq, Part.pv_eq]
  refine AW.seq ?_
  replace h := Option.bind_eq_some_iff.1 h; obtain ⟨r13, q14, h⟩ := h
  have f15 := c_F29 x1 x2 x3 x4 x5 l6 l7 r13 q14
  try dsimp only at f15
  have e16 : ecall O [.var [as_ x1, ai x2, .vec 1 l6.length, .vec 2 l7.length, ai x3, ai x4, ai x5], .row 32 4 (List.map Token.pv l6) true, .row 9 1 (List.map PV.str l7) true] 29 [.ref 0 0] = some (retAV [ab r13], [.var [as_ x1, ai x2, .vec 1 l6.length, .vec 2 l7.length, ai x3, ai x4, ai x5], .row 32 4 (List.map Token.pv l6) true, .row 9 1 (List.map PV.str l7) true]) := ecall_eq rfl rfl rfl f15 rfl rfl rfl
  refine AW.reg hS [(0, .ref 0 0), (3, ai x2), (4, ab r13)] [.var [as_ x1, ai x2, .vec 1 l6.length, .vec 2 l7.length, ai x3, ai x4, ai x5], .row 32 4 (List.map Token.pv l6) true, .row 9 1 (List.map PV.str l7) true] ?_ ?_
  · simp -implicitDefEqProofs only [RUNS, qindex, Nat.reduceAdd, Nat.reduceLeDiff, Nat.reduceSub, reduceIte, Nat.reduceEqDiff, Nat.reduceLT, reduceCtorEq, Nat.reduceMul, Nat.reduceBEq, Int.reduceEq, if_true, if_false, eq_self, ne_eq, env_bT, T_34, Token.pv_eq, Part.pv_eq, pf_29, e16]
  refine AW.seq ?_
  replace h := Option.bind_eq_some_iff.1 h; obtain ⟨⟨r17, r18, x19, x20⟩, q21, h⟩ := h
  dsimp only at h
  have f22 := c_F30 x1 x2 x3 x4 x5 l6 l7 r17 r18 x19 x20 q21
  try dsimp only at f22
  have e23 : ecall O [.var [as_ x1, ai x2, .vec 1 l6.length, .vec 2 l7.length, ai x3, ai x4, ai x5], .row 32 4 (List.map Token.pv l6) true, .row 9 1 (List.map PV.str l7) true] 30 [.ref 0 0] = some (retAV [as_ r17, ab r18], [.var [as_ x1, ai x2, .vec 1 l6.length, .vec 2 l7.length, ai x3, ai x19, ai x20], .row 32 4 (List.map Token.pv l6) true, .row 9 1 (List.map PV.str l7) true]) := ecall_eq rfl rfl rfl f22 rfl rfl rfl
  refine AW.reg hS [(0, .ref 0 0), (3, ai x2), (4, ab r13), (5, as_ r17), (6, ab r18)] [.var [as_ x1, ai x2, .vec 1 l6.length, .vec 2 l7.length, ai x3, ai x19, ai x20], .row 32 4 (List.map Token.pv l6) true, .row 9 1 (List.map PV.str l7) true] ?_ ?_
  · simp -implicitDefEqProofs only [RUNS, qindex, Nat.reduceAdd, Nat.reduceLeDiff, Nat.reduceSub, reduceIte, Nat.reduceEqDiff, Nat.reduceLT, reduceCtorEq, Nat.reduceMul, Nat.reduceBEq, Int.reduceEq, if_true, if_false, eq_self, ne_eq, env_bT, T_34, Token.pv_eq, Part.pv_eq, pf_30, e23]
  refine AW.seq ?_
  refine AW.seq ?_
  refine AW.reg hS [(0, .ref 0 0), (3, ai x2), (4, ab r13), (5, as_ r17), (21, ab (!r18))] [.var [as_ x1, ai x2, .vec 1 l6.length, .vec 2 l7.length, ai x3, ai x19, ai x20], .row 32 4 (List.map Token.pv l6) true, .row 9 1 (List.map PV.str l7) true] ?_ ?_
  · simp -implicitDefEqProofs only [RUNS, qindex, Nat.reduceAdd, Nat.reduceLeDiff, Nat.reduceSub, reduceIte, Nat.reduceEqDiff, Nat.reduceLT, reduceCtorEq, Nat.reduceMul, Nat.reduceBEq, Int.reduceEq, if_true, if_false, eq_self, ne_eq, env_bT, Token.pv_eq, Part.pv_eq]
  refine AW.cond (b := !r18) rfl (fun hb24 => ?_) (fun hb24 => ?_)
  · replace h := bif_t hb24 h
    refine AW.seq ?_
    refine AW.reg hS [(2, ab false)] [.var [as_ x1, ai x2, .vec 1 l6.length, .vec 2 l7.length, ai x3, ai x19, ai x20], .row 32 4 (List.map Token.pv l6) true, .row 9 1 (List.map PV.str l7) true] ?_ ?_
    · simp -implicitDefEqProofs only [RUNS, qindex, Nat.reduceAdd, Nat.reduceLeDiff, Nat.reduceSub, reduceIte, Nat.reduceEqDiff, Nat.reduceLT, reduceCtorEq, Nat.reduceMul, Nat.reduceBEq, Int.reduceEq, if_true, if_false, eq_self, ne_eq, env_bT, Token.pv_eq, Part.pv_eq]
    refine AW.ret ?_
    cases h
    show finish _ _ _ _ _ = _
    first | rfl | (simp [finish, resOf, renArgs, toPV, selObjs, sl])
  · replace h := bif_f hb24 h
    refine AW.skip ?_
    refine AW.seq ?_
    refine AW.seq ?_
    refine AW.reg hS [(0, .ref 0 0), (3, ai x2), (4, ab r13), (5, as_ r17), (23, ab (!decide (r17 = [])))] [.var [as_ x1, ai x2, .vec 1 l6.length, .vec 2 l7.length, ai x3, ai x19, ai x20], .row 32 4 (List.map Token.pv l6) true, .row 9 1 (List.map PV.str l7) true] ?_ ?_
    · simp -implicitDefEqProofs only [RUNS, qindex, Nat.reduceAdd, Nat.reduceLeDiff, Nat.reduceSub, reduceIte, Nat.reduceEqDiff, Nat.reduceLT, reduceCtorEq, Nat.reduceMul, Nat.reduceBEq, Int.reduceEq, if_true, if_false, eq_self, ne_eq, env_bT, T_9, Token.pv_eq, Part.pv_eq, eqT_9]
    refine AW.cond (b := !decide (r17 = [])) rfl (fun hb25 => ?_) (fun hb25 => ?_)
    · replace h := bif_t hb25 h
      refine AW.seq ?_
      refine AW.reg hS [(0, .ref 0 0), (3, ai x2), (4, ab r13), (5, as_ r17)] [.var [as_ x1, ai (IntKind.wrap .i64 (x2 + (r17.length : Int))), .vec 1 l6.length, .vec 2 l7.length, ai x3, ai x19, ai x20], .row 32 4 (List.map Token.pv l6) true, .row 9 1 (List.map PV.str l7) true] ?_ ?_
      · simp -implicitDefEqProofs only [RUNS, qindex, Nat.reduceAdd, Nat.reduceLeDiff, Nat.reduceSub, reduceIte, Nat.reduceEqDiff, Nat.reduceLT, reduceCtorEq, Nat.reduceMul, Nat.reduceBEq, Int.reduceEq, if_true, if_false, eq_self, ne_eq, env_bT, T_3, T_9, T_37, Token.pv_eq, Part.pv_eq, eqT_3]
      refine AW.seq ?_
      refine AW.seq ?_
      replace h := Option.bind_eq_some_iff.1 h; obtain ⟨⟨r26, x27, x28, o29⟩, q30, h⟩ := h
      dsimp only at h
      have f31 := c_F31 (Token.mk 2 x2 r17 []) r13 x1 (IntKind.wrap .i64 (x2 + (r17.length : Int))) x3 x19 x20 l6 l7 r26 x27 x28 o29 q30
      try dsimp only at f31
      have e32 : ecall O [.var [as_ x1, ai (IntKind.wrap .i64 (x2 + (r17.length : Int))), .vec 1 l6.length, .vec 2 l7.length, ai x3, ai x19, ai x20], .row 32 4 (List.map Token.pv l6) true, .row 9 1 (List.map PV.str l7) true] 31 [.ref 0 0, .pv (.agg [.int .i64 2, .int .i64 x2, .str r17, .str []]), ab r13] = some (retAV [ab r26], [.var [as_ x1, ai (IntKind.wrap .i64 (x2 + (r17.length : Int))), .vec 1 o29.length, .vec 2 l7.length, ai x3, ai x27, ai x28], .row 32 4 (List.map Token.pv o29) true, .row 9 1 (List.map PV.str l7) true]) := ecall_eq rfl rfl rfl f31 rfl rfl rfl
      refine AW.reg hS [(0, .ref 0 0), (5, as_ r17), (39, ab (!r26))] [.var [as_ x1, ai (IntKind.wrap .i64 (x2 + (r17.length : Int))), .vec 1 o29.length, .vec 2 l7.length, ai x3, ai x27, ai x28], .row 32 4 (List.map Token.pv o29) true, .row 9 1 (List.map PV.str l7) true] ?_ ?_
      · simp -implicitDefEqProofs only [RUNS, qindex, Nat.reduceAdd, Nat.reduceLeDiff, Nat.reduceSub, reduceIte, Nat.reduceEqDiff, Nat.reduceLT, reduceCtorEq, Nat.reduceMul, Nat.reduceBEq, Int.reduceEq, if_true, if_false, eq_self, ne_eq, env_bT, T_4, T_32, T_34, Token.pv_eq, Part.pv_eq, ownT_32, pf_31, e32]
      refine AW.cond (b := !r26) rfl (fun hb33 => ?_) (fun hb33 => ?_)
      · replace h := bif_t hb33 h
        refine AW.seq ?_
        refine AW.reg hS [(2, ab false)] [.var [as_ x1, ai (IntKind.wrap .i64 (x2 + (r17.length : Int))), .vec 1 o29.length, .vec 2 l7.length, ai x3, ai x27, ai x28], .row 32 4 (List.map Token.pv o29) true, .row 9 1 (List.map PV.str l7) true] ?_ ?_
        · simp -implicitDefEqProofs only [RUNS, qindex, Nat.reduceAdd, Nat.reduceLeDiff, Nat.reduceSub, reduceIte, Nat.reduceEqDiff, Nat.reduceLT, reduceCtorEq, Nat.reduceMul, Nat.reduceBEq, Int.reduceEq, if_true, if_false, eq_self, ne_eq, env_bT, Token.pv_eq, Part.pv_eq]
        refine AW.ret ?_
        cases h
        show finish _ _ _ _ _ = _
        first | rfl | (simp [finish, resOf, renArgs, toPV, selObjs, sl])
      · replace h := bif_f hb33 h
        refine AW.skip ?_
        refine AW.seq ?_
        refine AW.seq ?_
        refine AW.reg hS [(0, .ref 0 0), (45, ab (decide (r17 = [36]) || decide (r17 = [36, 35])))] [.var [as_ x1, ai (IntKind.wrap .i64 (x2 + (r17.length : Int))), .vec 1 o29.length, .vec 2 l7.length, ai x3, ai x27, ai x28], .row 32 4 (List.map Token.pv o29) true, .row 9 1 (List.map PV.str l7) true] ?_ ?_
        · clear h
          (simp -implicitDefEqProofs only [RUNS, qindex, Nat.reduceAdd, Nat.reduceLeDiff, Nat.reduceSub, reduceIte, Nat.reduceEqDiff, Nat.reduceLT, reduceCtorEq, Nat.reduceMul, Nat.reduceBEq, Int.reduceEq, if_true, if_false, eq_self, ne_eq, env_bT, T_9, Token.pv_eq, Part.pv_eq, eqT_9]); repeat' (split <;> rename_i hb <;> (try simp only [HBS, ge_iff_le, gt_iff_lt] at hb) <;> simp -implicitDefEqProofs only [RUNS, qindex, Nat.reduceAdd, Nat.reduceLeDiff, Nat.reduceSub, reduceIte, Nat.reduceEqDiff, Nat.reduceLT, reduceCtorEq, Nat.reduceMul, Nat.reduceBEq, Int.reduceEq, if_true, if_false, eq_self, ne_eq, env_bT, T_9, Token.pv_eq, Part.pv_eq, eqT_9, *, decide_true, decide_false, Decidable.not_not, not_false_eq_true, not_true_eq_false])
          all_goals (first | (simp only [BOOLS]; done) | (simp [*]; done) | ((try simp only [CLOS, beq_iff_eq, bne_iff_ne, ne_eq] at *) <;> omega) | (simp_all; done) | (simp_all <;> omega))
        refine AW.cond (b := (decide (r17 = [36]) || decide (r17 = [36, 35]))) rfl (fun hb34 => ?_) (fun hb34 => ?_)
        · replace h := bif_t hb34 h
          refine AW.seq ?_
          replace h := Option.bind_eq_some_iff.1 h; obtain ⟨⟨r35, x36, x37, x38, o39⟩, q40, h⟩ := h
          dsimp only at h
          have f41 := c_F32 x1 (IntKind.wrap .i64 (x2 + (r17.length : Int))) x3 x27 x28 o29 l7 r35 x36 x37 x38 o39 q40
          try dsimp only at f41
          have e42 : ecall O [.var [as_ x1, ai (IntKind.wrap .i64 (x2 + (r17.length : Int))), .vec 1 o29.length, .vec 2 l7.length, ai x3, ai x27, ai x28], .row 32 4 (List.map Token.pv o29) true, .row 9 1 (List.map PV.str l7) true] 32 [.ref 0 0] = some (retAV [ab r35], [.var [as_ x1, ai x36, .vec 1 o39.length, .vec 2 l7.length, ai x3, ai x37, ai x38], .row 32 4 (List.map Token.pv o39) true, .row 9 1 (List.map PV.str l7) true]) := ecall_eq rfl rfl rfl f41 rfl rfl rfl
          refine AW.reg hS [(2, ab r35)] [.var [as_ x1, ai x36, .vec 1 o39.length, .vec 2 l7.length, ai x3, ai x37, ai x38], .row 32 4 (List.map Token.pv o39) true, .row 9 1 (List.map PV.str l7) true] ?_ ?_
          · simp -implicitDefEqProofs only [RUNS, qindex, Nat.reduceAdd, Nat.reduceLeDiff, Nat.reduceSub, reduceIte, Nat.reduceEqDiff, Nat.reduceLT, reduceCtorEq, Nat.reduceMul, Nat.reduceBEq, Int.reduceEq, if_true, if_false, eq_self, ne_eq, env_bT, T_34, Token.pv_eq, Part.pv_eq, pf_32, e42]
          refine AW.ret ?_
          cases h
          show finish _ _ _ _ _ = _
          first | rfl | (simp [finish, resOf, renArgs, toPV, selObjs, sl])
        · replace h := bif_f hb34 h
          refine AW.skip ?_
          refine AW.seq ?_
          refine AW.reg hS [(2, ab true)] [.var [as_ x1, ai (IntKind.wrap .i64 (x2 + (r17.length : Int))), .vec 1 o29.length, .vec 2 l7.length, ai x3, ai x27, ai x28], .row 32 4 (List.map Token.pv o29) true, .row 9 1 (List.map PV.str l7) true] ?_ ?_
          · simp -implicitDefEqProofs only [RUNS, qindex, Nat.reduceAdd, Nat.reduceLeDiff, Nat.reduceSub, reduceIte, Nat.reduceEqDiff, Nat.reduceLT, reduceCtorEq, Nat.reduceMul, Nat.reduceBEq, Int.reduceEq, if_true, if_false, eq_self, ne_eq, env_bT, Token.pv_eq, Part.pv_eq]
          refine AW.ret ?_
          cases h
          show finish _ _ _ _ _ = _
          first | rfl | (simp [finish, resOf, renArgs, toPV, selObjs, sl])
    · replace h := bif_f hb25 h
      refine AW.skip ?_
      refine AW.seq ?_
      replace h := Option.bind_eq_some_iff.1 h; obtain ⟨⟨r43, r44, r45, x46, x47, x48⟩, q49, h⟩ := h
      dsimp only at h
      have f50 := c_F28x1 x1 x2 x3 x19 x20 l6 l7 r43 r44 r45 x46 x47 x48 q49
      try dsimp only at f50
      have e51 : ecall O [.var [as_ x1, ai x2, .vec 1 l6.length, .vec 2 l7.length, ai x3, ai x19, ai x20], .row 32 4 (List.map Token.pv l6) true, .row 9 1 (List.map PV.str l7) true] 28 [.ref 0 0] = some (retAV [as_ r43, as_ r44, ab r45], [.var [as_ x1, ai x46, .vec 1 l6.length, .vec 2 l7.length, ai x3, ai x47, ai x48], .row 32 4 (List.map Token.pv l6) true, .row 9 1 (List.map PV.str l7) true]) := ecall_eq rfl rfl rfl f50 rfl rfl rfl
      refine AW.reg hS [(0, .ref 0 0), (3, ai x2), (4, ab r13), (6, ab r45), (7, as_ r43), (8, as_ r44)] [.var [as_ x1, ai x46, .vec 1 l6.length, .vec 2 l7.length, ai x3, ai x47, ai x48], .row 32 4 (List.map Token.pv l6) true, .row 9 1 (List.map PV.str l7) true] ?_ ?_
      · simp -implicitDefEqProofs only [RUNS, qindex, Nat.reduceAdd, Nat.reduceLeDiff, Nat.reduceSub, reduceIte, Nat.reduceEqDiff, Nat.reduceLT, reduceCtorEq, Nat.reduceMul, Nat.reduceBEq, Int.reduceEq, if_true, if_false, eq_self, ne_eq, env_bT, T_34, Token.pv_eq, Part.pv_eq, pf_28, e51]
      refine AW.seq ?_
      refine AW.cases (r45) (fun hsp5 => ?_) (fun hsp5 => ?_)
      · replace h := bif_t hsp5 h
        replace h := Option.bind_eq_some_iff.1 h; obtain ⟨⟨r52, x53, x54, o55⟩, q56, h⟩ := h
        dsimp only at h
        have f57 := c_F31 (Token.mk 1 x2 r43 r44) r13 x1 x46 x3 x47 x48 l6 l7 r52 x53 x54 o55 q56
        try dsimp only at f57
        have e58 : ecall O [.var [as_ x1, ai x46, .vec 1 l6.length, .vec 2 l7.length, ai x3, ai x47, ai x48], .row 32 4 (List.map Token.pv l6) true, .row 9 1 (List.map PV.str l7) true] 31 [.ref 0 0, .pv (.agg [.int .i64 1, .int .i64 x2, .str r43, .str r44]), ab r13] = some (retAV [ab r52], [.var [as_ x1, ai x46, .vec 1 o55.length, .vec 2 l7.length, ai x3, ai x53, ai x54], .row 32 4 (List.map Token.pv o55) true, .row 9 1 (List.map PV.str l7) true]) := ecall_eq rfl rfl rfl f57 rfl rfl rfl
        refine AW.reg hS [(2, ab r52)] [.var [as_ x1, ai x46, .vec 1 o55.length, .vec 2 l7.length, ai x3, ai x53, ai x54], .row 32 4 (List.map Token.pv o55) true, .row 9 1 (List.map PV.str l7) true] ?_ ?_
        · simp -implicitDefEqProofs only [RUNS, qindex, Nat.reduceAdd, Nat.reduceLeDiff, Nat.reduceSub, reduceIte, Nat.reduceEqDiff, Nat.reduceLT, reduceCtorEq, Nat.reduceMul, Nat.reduceBEq, Int.reduceEq, if_true, if_false, eq_self, ne_eq, env_bT, T_4, T_32, T_34, Token.pv_eq, Part.pv_eq, hsp5, ownT_32, pf_31, e58]
        refine AW.ret ?_
        cases h
        show finish _ _ _ _ _ = _
        first | rfl | (simp [finish, resOf, renArgs, toPV, selObjs, sl])
      · replace h := bif_f hsp5 h
        refine AW.reg hS [(2, ab false)] [.var [as_ x1, ai x46, .vec 1 l6.length, .vec 2 l7.length, ai x3, ai x47, ai x48], .row 32 4 (List.map Token.pv l6) true, .row 9 1 (List.map PV.str l7) true] ?_ ?_
        · simp -implicitDefEqProofs only [RUNS, qindex, Nat.reduceAdd, Nat.reduceLeDiff, Nat.reduceSub, reduceIte, Nat.reduceEqDiff, Nat.reduceLT, reduceCtorEq, Nat.reduceMul, Nat.reduceBEq, Int.reduceEq, if_true, if_false, eq_self, ne_eq, env_bT, T_4, T_32, T_34, Token.pv_eq, Part.pv_eq, hsp5]
        refine AW.ret ?_
        cases h
        show finish _ _ _ _ _ = _
        first | rfl | (simp [finish, resOf, renArgs, toPV, selObjs, sl])

set_option maxHeartbeats 4000000 in
theorem g_F5 {O : Orc} (hS : Sound env O) (hpf : O.pf = pfn) (c_F11x2 : C_F11x2 O) (c_F12x2 : C_F12x2 O) (c_L_IndexByte : C_L_IndexByte O) (c_F14x1 : C_F14x1 O) (c_F15 : C_F15 O) (c_F16 : C_F16 O) (c_F17 : C_F17 O) (s1 : Str) (r2 : List Token) (r3 : Int) (r4 : Int) (h : F5 s1 = some (r2, r3, r4)) : Good env 5 [as_ s1] [] [.pv (.slice (List.map Token.pv r2)), ai r3, ai r4] [] := by
  have pf_11 : O.pf 11 = false := by rw [hpf]; rfl
  have pf_12 : O.pf 12 = false := by rw [hpf]; rfl
  have pf_13 : O.pf 13 = true := by rw [hpf]; rfl
  have pf_14 : O.pf 14 = false := by rw [hpf]; rfl
  have pf_15 : O.pf 15 = true := by rw [hpf]; rfl
  have pf_16 : O.pf 16 = false := by rw [hpf]; rfl
  have pf_17 : O.pf 17 = false := by rw [hpf]; rfl
  refine Good.start (fn := Tryz.f5) (N := 94) fn_5 rfl rfl (by simp) [] _ rfl rfl ?_
  rw [F5] at h
  refine AW.seq ?_
  refine AW.reg hS [(0, as_ s1)] [] ?_ ?_
  · simp -implicitDefEqProofs only [RUNS, qindex, Nat.reduceAdd, Nat.reduceLeDiff, Nat.reduceSub, reduceIte, Nat.reduceEqDiff, Nat.reduceLT, reduceCtorEq, Nat.reduceMul, Nat.reduceBEq, Int.reduceEq, if_true, if_false, eq_self, ne_eq, env_bT, Token.pv_eq, Part.pv_eq]
  refine AW.seq ?_
  refine AW.seq ?_
  refine AW.reg hS [(0, as_ s1), (10, ab (decide (65536 < (s1.length : Int))))] [] ?_ ?_
  · simp -implicitDefEqProofs only [RUNS, qindex, Nat.reduceAdd, Nat.reduceLeDiff, Nat.reduceSub, reduceIte, Nat.reduceEqDiff, Nat.reduceLT, reduceCtorEq, Nat.reduceMul, Nat.reduceBEq, Int.reduceEq, if_true, if_false, eq_self, ne_eq, env_bT, T_3, T_9, Token.pv_eq, Part.pv_eq, eqT_3]
  refine AW.cond (b := decide (65536 < (s1.length : Int))) rfl (fun hb5 => ?_) (fun hb5 => ?_)
  · replace h := bif_t hb5 h
    refine AW.seq ?_
    refine AW.reg hS [(2, .nils), (3, ai 0), (4, ai 4)] [] ?_ ?_
    · simp -implicitDefEqProofs only [RUNS, qindex, Nat.reduceAdd, Nat.reduceLeDiff, Nat.reduceSub, reduceIte, Nat.reduceEqDiff, Nat.reduceLT, reduceCtorEq, Nat.reduceMul, Nat.reduceBEq, Int.reduceEq, if_true, if_false, eq_self, ne_eq, env_bT, Token.pv_eq, Part.pv_eq]
    refine AW.ret ?_
    cases h
    show finish _ _ _ _ _ = _
    first | rfl | (simp [finish, resOf, renArgs, toPV, selObjs, sl])
  · replace h := bif_f hb5 h
    refine AW.skip ?_
    refine AW.seq ?_
    refine AW.after ?_
    refine AW.reg hS [(0, as_ s1), (5, .ref 0 0)] [.var [as_ s1, ai 0, .nils, .nils, ai 0, ai 0, ai 0]] ?_ ?_
    · simp -implicitDefEqProofs only [RUNS, qindex, Nat.reduceAdd, Nat.reduceLeDiff, Nat.reduceSub, reduceIte, Nat.reduceEqDiff, Nat.reduceLT, reduceCtorEq, Nat.reduceMul, Nat.reduceBEq, Int.reduceEq, if_true, if_false, eq_self, ne_eq, env_bT, T_37, Token.pv_eq, Part.pv_eq, ownT_37]
    refine ⟨⟨sl [(0, as_ s1), (5, .ref 0 0)], 94, [.var [as_ s1, ai 0, .vec 1 (List.length ([] : List Token)), .vec 2 (List.length ([] : List Str)), ai 0, ai 0, ai 0], .row 32 4 (List.map Token.pv ([] : List Token)) true, .row 9 1 (List.map PV.str ([] : List Str)) true]⟩, (Weak.trans (Weak.ownC (σ := ⟨sl [(0, as_ s1), (5, .ref 0 0)], 94, [.var [as_ s1, ai 0, .nils, .nils, ai 0, ai 0, ai 0]]⟩) 0 2 32 4 (by decide) (cs := [as_ s1, ai 0, .nils, .nils, ai 0, ai 0, ai 0]) rfl rfl) (Weak.trans (Weak.slots (L := [(0, as_ s1), (5, .ref 0 0)]) ⟨rfl, rfl, trivial⟩) (Weak.trans (Weak.ownC (σ := ⟨sl [(0, as_ s1), (5, .ref 0 0)], 94, [.var [as_ s1, ai 0, .vec 1 (List.length ([] : List Token)), .nils, ai 0, ai 0, ai 0], .row 32 4 (List.map Token.pv ([] : List Token)) true]⟩) 0 3 9 1 (by decide) (cs := [as_ s1, ai 0, .vec 1 (List.length ([] : List Token)), .nils, ai 0, ai 0, ai 0]) rfl rfl) (Weak.slots (L := [(0, as_ s1), (5, .ref 0 0)]) ⟨rfl, rfl, trivial⟩)))), ?_⟩
    refine AW.seq ?_
    refine AW.block ?_
    refine AW.weak (Weak.slots (L := [(0, as_ s1), (5, .ref 0 0)]) ⟨rfl, rfl, trivial⟩) ?_
    refine AW.loopI (α := Nat × Int × Int × Int × Int × (List Token) × (List Str)) (fun (_, x6, x7, x8, x9, l10, l11) => ⟨sl [(0, as_ s1), (5, .ref 0 0)], 94, [.var [as_ s1, ai x6, .vec 1 l10.length, .vec 2 l11.length, ai x7, ai x8, ai x9], .row 32 4 (List.map Token.pv l10) true, .row 9 1 (List.map PV.str l11) true]⟩) (fun x => iter (F5_b1 s1) x.1 x.2 = some (r2, r3, r4)) (fun x => x.1) (BIG, (0, 0, 0, 0, ([] : List Token), ([] : List Str))) h ?_
    clear h
    intro ⟨n65, x6, x7, x8, x9, l10, l11⟩ h
    replace h := iter_some h; obtain ⟨m14, rfl, h⟩ := h
    rw [F5_b1] at h
    try dsimp only at h
    show AW _ _ _ _ ⟨sl [(0, as_ s1), (5, .ref 0 0)], 94, [.var [as_ s1, ai x6, .vec 1 l10.length, .vec 2 l11.length, ai x7, ai x8, ai x9], .row 32 4 (List.map Token.pv l10) true, .row 9 1 (List.map PV.str l11) true]⟩
    refine AW.seq ?_
    refine AW.seq ?_
    refine AW.reg hS [(0, as_ s1), (5, .ref 0 0), (18, ab (decide (x9 = 0)))] [.var [as_ s1, ai x6, .vec 1 l10.length, .vec 2 l11.length, ai x7, ai x8, ai x9], .row 32 4 (List.map Token.pv l10) true, .row 9 1 (List.map PV.str l11) true] ?_ ?_
    · simp -implicitDefEqProofs only [RUNS, qindex, Nat.reduceAdd, Nat.reduceLeDiff, Nat.reduceSub, reduceIte, Nat.reduceEqDiff, Nat.reduceLT, reduceCtorEq, Nat.reduceMul, Nat.reduceBEq, Int.reduceEq, if_true, if_false, eq_self, ne_eq, env_bT, T_24, T_37, Token.pv_eq, Part.pv_eq, eqT_24]
    refine AW.cond (b := decide (x9 = 0)) rfl (fun hb15 => ?_) (fun hb15 => ?_)
    · replace h := bif_t hb15 h
      refine AW.skip ?_
      refine AW.block ?_
      refine AW.seq ?_
      refine AW.reg hS [(0, as_ s1), (5, .ref 0 0)] [.var [as_ s1, ai x6, .vec 1 l10.length, .vec 2 l11.length, ai x6, ai x8, ai x9], .row 32 4 (List.map Token.pv l10) true, .row 9 1 (List.map PV.str l11) true] ?_ ?_
      · simp -implicitDefEqProofs only [RUNS, qindex, Nat.reduceAdd, Nat.reduceLeDiff, Nat.reduceSub, reduceIte, Nat.reduceEqDiff, Nat.reduceLT, reduceCtorEq, Nat.reduceMul, Nat.reduceBEq, Int.reduceEq, if_true, if_false, eq_self, ne_eq, env_bT, T_3, T_37, Token.pv_eq, Part.pv_eq]
      refine AW.seq ?_
      replace h := Option.bind_eq_some_iff.1 h; obtain ⟨x16, q17, h⟩ := h
      have f18 := c_F11x2 s1 x6 x6 x8 x9 l10 l11 x16 q17
      try dsimp only at f18
      have e19 : ecall O [.var [as_ s1, ai x6, .vec 1 l10.length, .vec 2 l11.length, ai x6, ai x8, ai x9], .row 32 4 (List.map Token.pv l10) true, .row 9 1 (List.map PV.str l11) true] 11 [.ref 0 0] = some (retAV [], [.var [as_ s1, ai x16, .vec 1 l10.length, .vec 2 l11.length, ai x6, ai x8, ai x9], .row 32 4 (List.map Token.pv l10) true, .row 9 1 (List.map PV.str l11) true]) := ecall_eq rfl rfl rfl f18 rfl rfl rfl
      refine AW.reg hS [(0, as_ s1), (5, .ref 0 0)] [.var [as_ s1, ai x16, .vec 1 l10.length, .vec 2 l11.length, ai x6, ai x8, ai x9], .row 32 4 (List.map Token.pv l10) true, .row 9 1 (List.map PV.str l11) true] ?_ ?_
      · simp -implicitDefEqProofs only [RUNS, qindex, Nat.reduceAdd, Nat.reduceLeDiff, Nat.reduceSub, reduceIte, Nat.reduceEqDiff, Nat.reduceLT, reduceCtorEq, Nat.reduceMul, Nat.reduceBEq, Int.reduceEq, if_true, if_false, eq_self, ne_eq, env_bT, T_34, Token.pv_eq, Part.pv_eq, pf_11, e19]
      refine AW.seq ?_
      replace h := Option.bind_eq_some_iff.1 h; obtain ⟨r20, q21, h⟩ := h
      have f22 := c_F12x2 s1 x16 x6 x8 x9 l10 l11 r20 q21
      try dsimp only at f22
      have e23 : ecall O [.var [as_ s1, ai x16, .vec 1 l10.length, .vec 2 l11.length, ai x6, ai x8, ai x9], .row 32 4 (List.map Token.pv l10) true, .row 9 1 (List.map PV.str l11) true] 12 [.ref 0 0] = some (retAV [as_ r20], [.var [as_ s1, ai x16, .vec 1 l10.length, .vec 2 l11.length, ai x6, ai x8, ai x9], .row 32 4 (List.map Token.pv l10) true, .row 9 1 (List.map PV.str l11) true]) := ecall_eq rfl rfl rfl f22 rfl rfl rfl
      refine AW.reg hS [(0, as_ s1), (5, .ref 0 0), (6, as_ r20)] [.var [as_ s1, ai x16, .vec 1 l10.length, .vec 2 l11.length, ai x6, ai x8, ai x9], .row 32 4 (List.map Token.pv l10) true, .row 9 1 (List.map PV.str l11) true] ?_ ?_
      · simp -implicitDefEqProofs only [RUNS, qindex, Nat.reduceAdd, Nat.reduceLeDiff, Nat.reduceSub, reduceIte, Nat.reduceEqDiff, Nat.reduceLT, reduceCtorEq, Nat.reduceMul, Nat.reduceBEq, Int.reduceEq, if_true, if_false, eq_self, ne_eq, env_bT, T_34, Token.pv_eq, Part.pv_eq, pf_12, e23]
      refine AW.block ?_
      refine AW.seq ?_
      refine AW.reg hS [(0, as_ s1), (5, .ref 0 0), (6, as_ r20), (32, ab (decide (r20 = [])))] [.var [as_ s1, ai x16, .vec 1 l10.length, .vec 2 l11.length, ai x6, ai x8, ai x9], .row 32 4 (List.map Token.pv l10) true, .row 9 1 (List.map PV.str l11) true] ?_ ?_
      · simp -implicitDefEqProofs only [RUNS, qindex, Nat.reduceAdd, Nat.reduceLeDiff, Nat.reduceSub, reduceIte, Nat.reduceEqDiff, Nat.reduceLT, reduceCtorEq, Nat.reduceMul, Nat.reduceBEq, Int.reduceEq, if_true, if_false, eq_self, ne_eq, env_bT, T_9, Token.pv_eq, Part.pv_eq, eqT_9]
      refine AW.cond (b := decide (r20 = [])) rfl (fun hb24 => ?_) (fun hb24 => ?_)
      · replace h := bif_t hb24 h
        refine AW.seq ?_
        refine AW.seq ?_
        refine AW.reg hS [(0, as_ s1), (5, .ref 0 0), (40, ab (decide (0 < (l11.length : Int))))] [.var [as_ s1, ai x16, .vec 1 l10.length, .vec 2 l11.length, ai x6, ai x8, ai x9], .row 32 4 (List.map Token.pv l10) true, .row 9 1 (List.map PV.str l11) true] ?_ ?_
        · simp -implicitDefEqProofs only [RUNS, qindex, Nat.reduceAdd, Nat.reduceLeDiff, Nat.reduceSub, reduceIte, Nat.reduceEqDiff, Nat.reduceLT, reduceCtorEq, Nat.reduceMul, Nat.reduceBEq, Int.reduceEq, if_true, if_false, eq_self, ne_eq, env_bT, T_3, T_9, T_35, T_37, Token.pv_eq, Part.pv_eq, eqT_3]
        refine AW.cond (b := decide (0 < (l11.length : Int))) rfl (fun hb25 => ?_) (fun hb25 => ?_)
        · replace h := bif_t hb25 h
          refine AW.seq ?_
          refine AW.reg hS [(2, .nils), (3, ai (s1.length : Int)), (4, ai 3)] [.var [as_ s1, ai x16, .vec 1 l10.length, .vec 2 l11.length, ai x6, ai x8, ai x9], .row 32 4 (List.map Token.pv l10) true, .row 9 1 (List.map PV.str l11) true] ?_ ?_
          · simp -implicitDefEqProofs only [RUNS, qindex, Nat.reduceAdd, Nat.reduceLeDiff, Nat.reduceSub, reduceIte, Nat.reduceEqDiff, Nat.reduceLT, reduceCtorEq, Nat.reduceMul, Nat.reduceBEq, Int.reduceEq, if_true, if_false, eq_self, ne_eq, env_bT, T_9, Token.pv_eq, Part.pv_eq]
          refine AW.ret ?_
          cases h
          show finish _ _ _ _ _ = _
          first | rfl | (simp [finish, resOf, renArgs, toPV, selObjs, sl])
        · replace h := bif_f hb25 h
          refine AW.skip ?_
          refine AW.seq ?_
          refine AW.reg hS [(2, .vec 1 l10.length), (3, ai 0), (4, ai 0)] [.var [as_ s1, ai x16, .vec 1 l10.length, .vec 2 l11.length, ai x6, ai x8, ai x9], .row 32 4 (List.map Token.pv l10) true, .row 9 1 (List.map PV.str l11) true] ?_ ?_
          · simp -implicitDefEqProofs only [RUNS, qindex, Nat.reduceAdd, Nat.reduceLeDiff, Nat.reduceSub, reduceIte, Nat.reduceEqDiff, Nat.reduceLT, reduceCtorEq, Nat.reduceMul, Nat.reduceBEq, Int.reduceEq, if_true, if_false, eq_self, ne_eq, env_bT, T_23, T_32, T_37, Token.pv_eq, Part.pv_eq]
          refine AW.ret ?_
          cases h
          show finish _ _ _ _ _ = _
          first | rfl | (simp [finish, resOf, renArgs, toPV, selObjs, sl])
      · replace h := bif_f hb24 h
        refine AW.seq ?_
        replace h := Option.bind_eq_some_iff.1 h; obtain ⟨c26, q27, h⟩ := h
        have f28 := sidx_f q27
        refine AW.reg hS [(0, as_ s1), (5, .ref 0 0), (6, as_ r20), (47, ab (decide (c26 = 35)))] [.var [as_ s1, ai x16, .vec 1 l10.length, .vec 2 l11.length, ai x6, ai x8, ai x9], .row 32 4 (List.map Token.pv l10) true, .row 9 1 (List.map PV.str l11) true] ?_ ?_
        · simp -implicitDefEqProofs only [RUNS, qindex, Nat.reduceAdd, Nat.reduceLeDiff, Nat.reduceSub, reduceIte, Nat.reduceEqDiff, Nat.reduceLT, reduceCtorEq, Nat.reduceMul, Nat.reduceBEq, Int.reduceEq, if_true, if_false, eq_self, ne_eq, env_bT, T_5, T_9, Token.pv_eq, Part.pv_eq, f28.1, f28.2.1, f28.2.2, eqT_5]
        refine AW.cond (b := decide (c26 = 35)) rfl (fun hb29 => ?_) (fun hb29 => ?_)
        · replace h := bif_t hb29 h
          refine AW.seq ?_
          refine AW.reg hS [(0, as_ s1), (5, .ref 0 0), (6, as_ r20)] [.var [as_ s1, ai (IntKind.wrap .i64 (x16 + (r20.length : Int))), .vec 1 l10.length, .vec 2 l11.length, ai x6, ai x8, ai x9], .row 32 4 (List.map Token.pv l10) true, .row 9 1 (List.map PV.str l11) true] ?_ ?_
          · simp -implicitDefEqProofs only [RUNS, qindex, Nat.reduceAdd, Nat.reduceLeDiff, Nat.reduceSub, reduceIte, Nat.reduceEqDiff, Nat.reduceLT, reduceCtorEq, Nat.reduceMul, Nat.reduceBEq, Int.reduceEq, if_true, if_false, eq_self, ne_eq, env_bT, T_3, T_9, T_37, Token.pv_eq, Part.pv_eq, eqT_3]
          refine AW.seq ?_
          replace h := Option.bind_eq_some_iff.1 h; obtain ⟨n30, q31, h⟩ := h
          have f32 := c_L_IndexByte r20 10 n30 q31
          try dsimp only at f32
          refine AW.reg hS [(0, as_ s1), (5, .ref 0 0), (6, as_ r20), (7, ai n30)] [.var [as_ s1, ai (IntKind.wrap .i64 (x16 + (r20.length : Int))), .vec 1 l10.length, .vec 2 l11.length, ai x6, ai x8, ai x9], .row 32 4 (List.map Token.pv l10) true, .row 9 1 (List.map PV.str l11) true] ?_ ?_
          · simp -implicitDefEqProofs only [RUNS, qindex, Nat.reduceAdd, Nat.reduceLeDiff, Nat.reduceSub, reduceIte, Nat.reduceEqDiff, Nat.reduceLT, reduceCtorEq, Nat.reduceMul, Nat.reduceBEq, Int.reduceEq, if_true, if_false, eq_self, ne_eq, env_bT, T_5, T_9, Token.pv_eq, Part.pv_eq, pf_13, f32]
          refine AW.seq ?_
          refine AW.reg hS [(0, as_ s1), (5, .ref 0 0), (6, as_ r20), (7, ai n30), (63, ab (decide (0 ≤ n30)))] [.var [as_ s1, ai (IntKind.wrap .i64 (x16 + (r20.length : Int))), .vec 1 l10.length, .vec 2 l11.length, ai x6, ai x8, ai x9], .row 32 4 (List.map Token.pv l10) true, .row 9 1 (List.map PV.str l11) true] ?_ ?_
          · simp -implicitDefEqProofs only [RUNS, qindex, Nat.reduceAdd, Nat.reduceLeDiff, Nat.reduceSub, reduceIte, Nat.reduceEqDiff, Nat.reduceLT, reduceCtorEq, Nat.reduceMul, Nat.reduceBEq, Int.reduceEq, if_true, if_false, eq_self, ne_eq, env_bT, T_3, Token.pv_eq, Part.pv_eq, eqT_3]
          refine AW.cond (b := decide (0 ≤ n30)) rfl (fun hb33 => ?_) (fun hb33 => ?_)
          · replace h := bif_t hb33 h
            refine AW.reg hS [(0, as_ s1), (5, .ref 0 0)] [.var [as_ s1, ai (IntKind.wrap .i64 ((IntKind.wrap .i64 (x16 + (r20.length : Int))) + (IntKind.wrap .i64 (n30 - (r20.length : Int))))), .vec 1 l10.length, .vec 2 l11.length, ai x6, ai x8, ai x9], .row 32 4 (List.map Token.pv l10) true, .row 9 1 (List.map PV.str l11) true] ?_ ?_
            · simp -implicitDefEqProofs only [RUNS, qindex, Nat.reduceAdd, Nat.reduceLeDiff, Nat.reduceSub, reduceIte, Nat.reduceEqDiff, Nat.reduceLT, reduceCtorEq, Nat.reduceMul, Nat.reduceBEq, Int.reduceEq, if_true, if_false, eq_self, ne_eq, env_bT, T_3, T_9, T_37, Token.pv_eq, Part.pv_eq, eqT_3]
            exact ⟨(m14, (IntKind.wrap .i64 ((IntKind.wrap .i64 (x16 + (r20.length : Int))) + (IntKind.wrap .i64 (n30 - (r20.length : Int)))), x6, x8, x9, l10, l11)), h, (Weak.norm (m := 3) (Nat.le_of_ble_eq_true rfl) ⟨rfl, rfl, trivial⟩ rfl rfl rfl), Nat.lt_succ_self _⟩
          · replace h := bif_f hb33 h
            refine AW.skip ?_
            exact ⟨(m14, (IntKind.wrap .i64 (x16 + (r20.length : Int)), x6, x8, x9, l10, l11)), h, (Weak.norm (m := 3) (Nat.le_of_ble_eq_true rfl) ⟨rfl, rfl, trivial⟩ rfl rfl rfl), Nat.lt_succ_self _⟩
        · replace h := bif_f hb29 h
          refine AW.seq ?_
          refine AW.reg hS [(0, as_ s1), (5, .ref 0 0), (6, as_ r20), (75, ab (decide (c26 = 10)))] [.var [as_ s1, ai x16, .vec 1 l10.length, .vec 2 l11.length, ai x6, ai x8, ai x9], .row 32 4 (List.map Token.pv l10) true, .row 9 1 (List.map PV.str l11) true] ?_ ?_
          · simp -implicitDefEqProofs only [RUNS, qindex, Nat.reduceAdd, Nat.reduceLeDiff, Nat.reduceSub, reduceIte, Nat.reduceEqDiff, Nat.reduceLT, reduceCtorEq, Nat.reduceMul, Nat.reduceBEq, Int.reduceEq, if_true, if_false, eq_self, ne_eq, env_bT, T_5, T_9, Token.pv_eq, Part.pv_eq, f28.1, f28.2.1, f28.2.2, eqT_5]
          refine AW.cond (b := decide (c26 = 10)) rfl (fun hb34 => ?_) (fun hb34 => ?_)
          · replace h := bif_t hb34 h
            replace h := Option.bind_eq_some_iff.1 h; obtain ⟨⟨tag35, r36, x37, x38, x39, o40⟩, q41, h⟩ := h
            dsimp only at h
            refine AW.cases (tag35) (fun hsp8 => ?_) (fun hsp8 => ?_)
            · subst hsp8
              replace h := bif_t rfl h
              have f42 := c_F14x1 s1 x16 x6 x8 x9 l10 l11 true r36 x37 x38 x39 o40 q41
              try dsimp only at f42
              simp only [cond_true, cond_false] at f42
              have e43 : ecall O [.var [as_ s1, ai x16, .vec 1 l10.length, .vec 2 l11.length, ai x6, ai x8, ai x9], .row 32 4 (List.map Token.pv l10) true, .row 9 1 (List.map PV.str l11) true] 14 [.ref 0 0] = some (retAV [ab r36], [.var [as_ s1, ai x37, .vec 1 o40.length, .nils, ai x6, ai x38, ai x39], .row 32 4 (List.map Token.pv o40) true, .row 9 1 (List.map PV.str l11) true]) := ecall_eq rfl rfl rfl f42 rfl rfl rfl
              refine AW.after ?_
              refine AW.reg hS [(0, as_ s1), (5, .ref 0 0)] [.var [as_ s1, ai x37, .vec 1 o40.length, .nils, ai x6, ai x38, ai x39], .row 32 4 (List.map Token.pv o40) true, .row 9 1 (List.map PV.str l11) true] ?_ ?_
              · simp -implicitDefEqProofs only [RUNS, qindex, Nat.reduceAdd, Nat.reduceLeDiff, Nat.reduceSub, reduceIte, Nat.reduceEqDiff, Nat.reduceLT, reduceCtorEq, Nat.reduceMul, Nat.reduceBEq, Int.reduceEq, if_true, if_false, eq_self, ne_eq, env_bT, T_34, Token.pv_eq, Part.pv_eq, pf_14, e43]
              refine ⟨⟨sl [(0, as_ s1), (5, .ref 0 0)], 94, [.var [as_ s1, ai x37, .vec 1 o40.length, .vec 3 (List.length ([] : List Str)), ai x6, ai x38, ai x39], .row 32 4 (List.map Token.pv o40) true, .row 9 1 (List.map PV.str l11) true, .row 9 1 (List.map PV.str ([] : List Str)) true]⟩, (Weak.trans (Weak.ownC (σ := ⟨sl [(0, as_ s1), (5, .ref 0 0)], 94, [.var [as_ s1, ai x37, .vec 1 o40.length, .nils, ai x6, ai x38, ai x39], .row 32 4 (List.map Token.pv o40) true, .row 9 1 (List.map PV.str l11) true]⟩) 0 3 9 1 (by decide) (cs := [as_ s1, ai x37, .vec 1 o40.length, .nils, ai x6, ai x38, ai x39]) rfl rfl) (Weak.slots (L := [(0, as_ s1), (5, .ref 0 0)]) ⟨rfl, rfl, trivial⟩)), ?_⟩
              exact ⟨(m14, (x37, x6, x38, x39, o40, ([] : List Str))), h, (Weak.sel [0, 1, 3] (L := [(0, as_ s1), (5, .ref 0 0)]) ⟨rfl, rfl, trivial⟩ (by decide) rfl rfl), Nat.lt_succ_self _⟩
            · subst hsp8
              replace h := bif_f rfl h
              have f42 := c_F14x1 s1 x16 x6 x8 x9 l10 l11 false r36 x37 x38 x39 o40 q41
              try dsimp only at f42
              simp only [cond_true, cond_false] at f42
              have e43 : ecall O [.var [as_ s1, ai x16, .vec 1 l10.length, .vec 2 l11.length, ai x6, ai x8, ai x9], .row 32 4 (List.map Token.pv l10) true, .row 9 1 (List.map PV.str l11) true] 14 [.ref 0 0] = some (retAV [ab r36], [.var [as_ s1, ai x37, .vec 1 o40.length, .vec 2 l11.length, ai x6, ai x38, ai x39], .row 32 4 (List.map Token.pv o40) true, .row 9 1 (List.map PV.str l11) true]) := ecall_eq rfl rfl rfl f42 rfl rfl rfl
              refine AW.reg hS [(0, as_ s1), (5, .ref 0 0)] [.var [as_ s1, ai x37, .vec 1 o40.length, .vec 2 l11.length, ai x6, ai x38, ai x39], .row 32 4 (List.map Token.pv o40) true, .row 9 1 (List.map PV.str l11) true] ?_ ?_
              · simp -implicitDefEqProofs only [RUNS, qindex, Nat.reduceAdd, Nat.reduceLeDiff, Nat.reduceSub, reduceIte, Nat.reduceEqDiff, Nat.reduceLT, reduceCtorEq, Nat.reduceMul, Nat.reduceBEq, Int.reduceEq, if_true, if_false, eq_self, ne_eq, env_bT, T_34, Token.pv_eq, Part.pv_eq, pf_14, e43]
              exact ⟨(m14, (x37, x6, x38, x39, o40, l11)), h, (Weak.norm (m := 3) (Nat.le_of_ble_eq_true rfl) ⟨rfl, rfl, trivial⟩ rfl rfl rfl), Nat.lt_succ_self _⟩
          · replace h := bif_f hb34 h
            refine AW.seq ?_
            replace h := Option.bind_eq_some_iff.1 h; obtain ⟨r44, q45, h⟩ := h
            have f46 := c_F15 r20 [60, 60] r44 q45
            try dsimp only at f46
            try simp only [List.map_cons, List.map_nil, Token.pv_eq, Part.pv_eq] at f46
            refine AW.reg hS [(0, as_ s1), (5, .ref 0 0), (81, ab r44)] [.var [as_ s1, ai x16, .vec 1 l10.length, .vec 2 l11.length, ai x6, ai x8, ai x9], .row 32 4 (List.map Token.pv l10) true, .row 9 1 (List.map PV.str l11) true] ?_ ?_
            · simp -implicitDefEqProofs only [RUNS, qindex, Nat.reduceAdd, Nat.reduceLeDiff, Nat.reduceSub, reduceIte, Nat.reduceEqDiff, Nat.reduceLT, reduceCtorEq, Nat.reduceMul, Nat.reduceBEq, Int.reduceEq, if_true, if_false, eq_self, ne_eq, env_bT, T_9, Token.pv_eq, Part.pv_eq, pf_15, f46]
            refine AW.cond (b := r44) rfl (fun hb47 => ?_) (fun hb47 => ?_)
            · replace h := bif_t hb47 h
              replace h := Option.bind_eq_some_iff.1 h; obtain ⟨⟨r48, x49, x50, x51, o52, o53⟩, q54, h⟩ := h
              dsimp only at h
              have f55 := c_F16 s1 x16 x6 x8 x9 l10 l11 r48 x49 x50 x51 o52 o53 q54
              try dsimp only at f55
              have e56 : ecall O [.var [as_ s1, ai x16, .vec 1 l10.length, .vec 2 l11.length, ai x6, ai x8, ai x9], .row 32 4 (List.map Token.pv l10) true, .row 9 1 (List.map PV.str l11) true] 16 [.ref 0 0] = some (retAV [ab r48], [.var [as_ s1, ai x49, .vec 1 o52.length, .vec 2 o53.length, ai x6, ai x50, ai x51], .row 32 4 (List.map Token.pv o52) true, .row 9 1 (List.map PV.str o53) true]) := ecall_eq rfl rfl rfl f55 rfl rfl rfl
              refine AW.reg hS [(0, as_ s1), (5, .ref 0 0)] [.var [as_ s1, ai x49, .vec 1 o52.length, .vec 2 o53.length, ai x6, ai x50, ai x51], .row 32 4 (List.map Token.pv o52) true, .row 9 1 (List.map PV.str o53) true] ?_ ?_
              · simp -implicitDefEqProofs only [RUNS, qindex, Nat.reduceAdd, Nat.reduceLeDiff, Nat.reduceSub, reduceIte, Nat.reduceEqDiff, Nat.reduceLT, reduceCtorEq, Nat.reduceMul, Nat.reduceBEq, Int.reduceEq, if_true, if_false, eq_self, ne_eq, env_bT, T_34, Token.pv_eq, Part.pv_eq, pf_16, e56]
              exact ⟨(m14, (x49, x6, x50, x51, o52, o53)), h, (Weak.norm (m := 3) (Nat.le_of_ble_eq_true rfl) ⟨rfl, rfl, trivial⟩ rfl rfl rfl), Nat.lt_succ_self _⟩
            · replace h := bif_f hb47 h
              replace h := Option.bind_eq_some_iff.1 h; obtain ⟨⟨r57, x58, x59, x60, o61⟩, q62, h⟩ := h
              dsimp only at h
              have f63 := c_F17 s1 x16 x6 x8 x9 l10 l11 r57 x58 x59 x60 o61 q62
              try dsimp only at f63
              have e64 : ecall O [.var [as_ s1, ai x16, .vec 1 l10.length, .vec 2 l11.length, ai x6, ai x8, ai x9], .row 32 4 (List.map Token.pv l10) true, .row 9 1 (List.map PV.str l11) true] 17 [.ref 0 0] = some (retAV [ab r57], [.var [as_ s1, ai x58, .vec 1 o61.length, .vec 2 l11.length, ai x6, ai x59, ai x60], .row 32 4 (List.map Token.pv o61) true, .row 9 1 (List.map PV.str l11) true]) := ecall_eq rfl rfl rfl f63 rfl rfl rfl
              refine AW.reg hS [(0, as_ s1), (5, .ref 0 0)] [.var [as_ s1, ai x58, .vec 1 o61.length, .vec 2 l11.length, ai x6, ai x59, ai x60], .row 32 4 (List.map Token.pv o61) true, .row 9 1 (List.map PV.str l11) true] ?_ ?_
              · simp -implicitDefEqProofs only [RUNS, qindex, Nat.reduceAdd, Nat.reduceLeDiff, Nat.reduceSub, reduceIte, Nat.reduceEqDiff, Nat.reduceLT, reduceCtorEq, Nat.reduceMul, Nat.reduceBEq, Int.reduceEq, if_true, if_false, eq_self, ne_eq, env_bT, T_34, Token.pv_eq, Part.pv_eq, pf_17, e64]
              exact ⟨(m14, (x58, x6, x59, x60, o61, l11)), h, (Weak.norm (m := 3) (Nat.le_of_ble_eq_true rfl) ⟨rfl, rfl, trivial⟩ rfl rfl rfl), Nat.lt_succ_self _⟩
    · replace h := bif_f hb15 h
      refine AW.exit ?_
      refine AW.seq ?_
      refine AW.dreg mixed hS (hpf ▸ (by kernel_rfl : orderOK pfn _ = true)) [(2, .nils), (3, ai x8), (4, ai x9)] [.var [as_ s1, ai x6, .vec 1 l10.length, .vec 2 l11.length, ai x7, ai x8, ai x9], .row 32 4 (List.map Token.pv l10) true, .row 9 1 (List.map PV.str l11) true] ?_ ?_
      · simp -implicitDefEqProofs only [RUNS, qindex, Nat.reduceAdd, Nat.reduceLeDiff, Nat.reduceSub, reduceIte, Nat.reduceEqDiff, Nat.reduceLT, reduceCtorEq, Nat.reduceMul, Nat.reduceBEq, Int.reduceEq, if_true, if_false, eq_self, ne_eq, env_bT, T_3, T_24, T_37, Token.pv_eq, Part.pv_eq]
      refine AW.ret ?_
      cases h
      show finish _ _ _ _ _ = _
      first | rfl | (simp [finish, resOf, renArgs, toPV, selObjs, sl])

set_option maxHeartbeats 4000000 in
theorem g_F10 {O : Orc} (hS : Sound env O) (hpf : O.pf = pfn) (c_L_IndexByte : C_L_IndexByte O) (s1 : Str) (r2 : Bool) (h : F10 s1 = some r2) : Good env 10 [as_ s1] [] [ab r2] [] := by
  have pf_13 : O.pf 13 = true := by rw [hpf]; rfl
  refine Good.start (fn := Tryz.f10) (N := 22) fn_10 rfl rfl (by simp) [] _ rfl rfl ?_
  rw [F10] at h
  refine AW.seq ?_
  refine AW.reg hS [(0, as_ s1)] [] ?_ ?_
  · simp -implicitDefEqProofs only [RUNS, qindex, Nat.reduceAdd, Nat.reduceLeDiff, Nat.reduceSub, reduceIte, Nat.reduceEqDiff, Nat.reduceLT, reduceCtorEq, Nat.reduceMul, Nat.reduceBEq, Int.reduceEq, if_true, if_false, eq_self, ne_eq, env_bT, Token.pv_eq, Part.pv_eq]
  refine AW.seq ?_
  refine AW.seq ?_
  replace h := Option.bind_eq_some_iff.1 h; obtain ⟨c3, q4, h⟩ := h
  have f5 := sidx_g (guardO_t q4)
  replace h := Option.bind_eq_some_iff.1 h; obtain ⟨n6, q7, h⟩ := h
  have f8 := fun hg => c_L_IndexByte [35, 33, 64] c3 n6 (guardO_t q7 hg)
  try dsimp only at f8
  try simp only [List.map_cons, List.map_nil, Token.pv_eq, Part.pv_eq] at f8
  refine AW.reg hS [(0, as_ s1), (11, ab (decide (s1 = []) || decide (0 ≤ n6)))] [] ?_ ?_
  · clear h
    (simp -implicitDefEqProofs only [RUNS, qindex, Nat.reduceAdd, Nat.reduceLeDiff, Nat.reduceSub, reduceIte, Nat.reduceEqDiff, Nat.reduceLT, reduceCtorEq, Nat.reduceMul, Nat.reduceBEq, Int.reduceEq, if_true, if_false, eq_self, ne_eq, env_bT, T_3, T_5, T_9, Token.pv_eq, Part.pv_eq, eqT_9, f5.1, f5.2.1, f5.2.2, pf_13, f8, eqT_3]); repeat' (split <;> rename_i hb <;> (try simp only [HBS, ge_iff_le, gt_iff_lt] at hb) <;> simp -implicitDefEqProofs only [RUNS, qindex, Nat.reduceAdd, Nat.reduceLeDiff, Nat.reduceSub, reduceIte, Nat.reduceEqDiff, Nat.reduceLT, reduceCtorEq, Nat.reduceMul, Nat.reduceBEq, Int.reduceEq, if_true, if_false, eq_self, ne_eq, env_bT, T_3, T_5, T_9, Token.pv_eq, Part.pv_eq, eqT_9, f5.1, f5.2.1, f5.2.2, pf_13, f8, eqT_3, *, decide_true, decide_false, Decidable.not_not, not_false_eq_true, not_true_eq_false])
    all_goals (first | (simp only [BOOLS]; done) | (simp [*]; done) | ((try simp only [CLOS, beq_iff_eq, bne_iff_ne, ne_eq] at *) <;> omega) | (simp_all; done) | (simp_all <;> omega))
  refine AW.cond (b := (decide (s1 = []) || decide (0 ≤ n6))) rfl (fun hb9 => ?_) (fun hb9 => ?_)
  · replace h := bif_t hb9 h
    refine AW.seq ?_
    refine AW.reg hS [(2, ab false)] [] ?_ ?_
    · simp -implicitDefEqProofs only [RUNS, qindex, Nat.reduceAdd, Nat.reduceLeDiff, Nat.reduceSub, reduceIte, Nat.reduceEqDiff, Nat.reduceLT, reduceCtorEq, Nat.reduceMul, Nat.reduceBEq, Int.reduceEq, if_true, if_false, eq_self, ne_eq, env_bT, Token.pv_eq, Part.pv_eq]
    refine AW.ret ?_
    cases h
    show finish _ _ _ _ _ = _
    first | rfl | (simp [finish, resOf, renArgs, toPV, selObjs, sl])
  · replace h := bif_f hb9 h
    refine AW.skip ?_
    refine AW.seq ?_
    refine AW.seq ?_
    refine AW.reg hS [(0, as_ s1), (13, .ref 0 0)] [.iter s1 0] ?_ ?_
    · simp -implicitDefEqProofs only [RUNS, qindex, Nat.reduceAdd, Nat.reduceLeDiff, Nat.reduceSub, reduceIte, Nat.reduceEqDiff, Nat.reduceLT, reduceCtorEq, Nat.reduceMul, Nat.reduceBEq, Int.reduceEq, if_true, if_false, eq_self, ne_eq, env_bT, Token.pv_eq, Part.pv_eq, erange_str T_9]
    refine AW.block ?_
    refine AW.weak (Weak.slots (L := [(0, as_ s1), (13, .ref 0 0)]) ⟨rfl, rfl, trivial⟩) ?_
    refine AW.loopI (α := Nat × Nat) (fun (_, p10) => ⟨sl [(0, as_ s1), (13, .ref 0 0)], 22, [.iter s1 p10]⟩) (fun x => iter (F10_b1 s1) x.1 x.2 = some r2) (fun x => x.1) (BIG, 0) h ?_
    clear h
    intro ⟨n23, p10⟩ h
    replace h := iter_some h; obtain ⟨m13, rfl, h⟩ := h
    rw [F10_b1] at h
    try dsimp only at h
    show AW _ _ _ _ ⟨sl [(0, as_ s1), (13, .ref 0 0)], 22, [.iter s1 p10]⟩
    refine AW.seq ?_
    refine AW.cases (decide (p10 < s1.length)) (fun hsp12 => ?_) (fun hsp12 => ?_)
    · replace h := bif_t hsp12 h
      have f14 := enext_t (H := [.iter s1 p10]) (l := 0) rfl (of_decide_eq_true hsp12)
      refine AW.reg hS [(0, as_ s1), (13, .ref 0 0), (14, .tup [ab true, ai (p10 : Int), .pv (.int .i32 (runeC s1 p10))]), (15, ab true)] [.iter s1 (runeN s1 p10)] ?_ ?_
      · simp -implicitDefEqProofs only [RUNS, qindex, Nat.reduceAdd, Nat.reduceLeDiff, Nat.reduceSub, reduceIte, Nat.reduceEqDiff, Nat.reduceLT, reduceCtorEq, Nat.reduceMul, Nat.reduceBEq, Int.reduceEq, if_true, if_false, eq_self, ne_eq, env_bT, Token.pv_eq, Part.pv_eq, f14]
      refine AW.seq ?_
      refine AW.cond (b := true) rfl (fun _ => ?_) (fun hb => absurd hb (by decide))
      refine AW.skip ?_
      refine AW.block ?_
      refine AW.seq ?_
      refine AW.reg hS [(0, as_ s1), (3, ai (p10 : Int)), (13, .ref 0 0)] [.iter s1 (runeN s1 p10)] ?_ ?_
      · simp -implicitDefEqProofs only [RUNS, qindex, Nat.reduceAdd, Nat.reduceLeDiff, Nat.reduceSub, reduceIte, Nat.reduceEqDiff, Nat.reduceLT, reduceCtorEq, Nat.reduceMul, Nat.reduceBEq, Int.reduceEq, if_true, if_false, eq_self, ne_eq, env_bT, Token.pv_eq, Part.pv_eq]
      refine AW.seq ?_
      replace h := Option.bind_eq_some_iff.1 h; obtain ⟨c16, q17, h⟩ := h
      have f18 := sidx_f q17
      try simp only [Int.toNat_natCast] at f18
      replace h := Option.bind_eq_some_iff.1 h; obtain ⟨n19, q20, h⟩ := h
      have f21 := c_L_IndexByte [32, 9, 10, 59, 38, 124, 40, 41, 123, 125, 60, 62, 61, 94, 96, 36, 39, 92, 42, 63, 91] c16 n19 q20
      try dsimp only at f21
      try simp only [List.map_cons, List.map_nil, Token.pv_eq, Part.pv_eq] at f21
      refine AW.reg hS [(0, as_ s1), (13, .ref 0 0), (21, ab (decide (0 ≤ n19)))] [.iter s1 (runeN s1 p10)] ?_ ?_
      · simp -implicitDefEqProofs only [RUNS, qindex, Nat.reduceAdd, Nat.reduceLeDiff, Nat.reduceSub, reduceIte, Nat.reduceEqDiff, Nat.reduceLT, reduceCtorEq, Nat.reduceMul, Nat.reduceBEq, Int.reduceEq, if_true, if_false, eq_self, ne_eq, env_bT, T_3, T_5, T_9, Token.pv_eq, Part.pv_eq, f18.1, f18.2.1, f18.2.2, pf_13, f21, eqT_3]
      refine AW.cond (b := decide (0 ≤ n19)) rfl (fun hb22 => ?_) (fun hb22 => ?_)
      · replace h := bif_t hb22 h
        refine AW.seq ?_
        refine AW.reg hS [(2, ab false)] [.iter s1 (runeN s1 p10)] ?_ ?_
        · simp -implicitDefEqProofs only [RUNS, qindex, Nat.reduceAdd, Nat.reduceLeDiff, Nat.reduceSub, reduceIte, Nat.reduceEqDiff, Nat.reduceLT, reduceCtorEq, Nat.reduceMul, Nat.reduceBEq, Int.reduceEq, if_true, if_false, eq_self, ne_eq, env_bT, Token.pv_eq, Part.pv_eq]
        refine AW.ret ?_
        cases h
        show finish _ _ _ _ _ = _
        first | rfl | (simp [finish, resOf, renArgs, toPV, selObjs, sl])
      · replace h := bif_f hb22 h
        refine AW.skip ?_
        exact ⟨(m13, runeN s1 p10), h, (Weak.norm (m := 1) (Nat.le_of_ble_eq_true rfl) ⟨rfl, rfl, trivial⟩ rfl rfl rfl), Nat.lt_succ_self _⟩
    · replace h := bif_f hsp12 h
      have f14 := enext_f (H := [.iter s1 p10]) (l := 0) rfl (of_decide_eq_false hsp12)
      refine AW.reg hS [(0, as_ s1), (13, .ref 0 0), (14, .tup [ab false]), (15, ab false)] [.iter s1 p10] ?_ ?_
      · simp -implicitDefEqProofs only [RUNS, qindex, Nat.reduceAdd, Nat.reduceLeDiff, Nat.reduceSub, reduceIte, Nat.reduceEqDiff, Nat.reduceLT, reduceCtorEq, Nat.reduceMul, Nat.reduceBEq, Int.reduceEq, if_true, if_false, eq_self, ne_eq, env_bT, Token.pv_eq, Part.pv_eq, f14]
      refine AW.seq ?_
      refine AW.cond (b := false) rfl (fun hb => absurd hb (by decide)) (fun _ => ?_)
      refine AW.exit ?_
      refine AW.seq ?_
      refine AW.reg hS [(2, ab true)] [.iter s1 p10] ?_ ?_
      · simp -implicitDefEqProofs only [RUNS, qindex, Nat.reduceAdd, Nat.reduceLeDiff, Nat.reduceSub, reduceIte, Nat.reduceEqDiff, Nat.reduceLT, reduceCtorEq, Nat.reduceMul, Nat.reduceBEq, Int.reduceEq, if_true, if_false, eq_self, ne_eq, env_bT, Token.pv_eq, Part.pv_eq]
      refine AW.ret ?_
      cases h
      show finish _ _ _ _ _ = _
      first | rfl | (simp [finish, resOf, renArgs, toPV, selObjs, sl])

set_option maxHeartbeats 4000000 in
theorem g_F9 {O : Orc} (hS : Sound env O) (hpf : O.pf = pfn) (c_F10 : C_F10 O) (c_L_ReplaceAll : C_L_ReplaceAll O) (s1 : Str) (r2 : Str) (h : F9 s1 = some r2) : Good env 9 [as_ s1] [] [as_ r2] [] := by
  have pf_10 : O.pf 10 = true := by rw [hpf]; rfl
  have pf_23 : O.pf 23 = true := by rw [hpf]; rfl
  refine Good.start (fn := Tryz.f9) (N := 10) fn_9 rfl rfl (by simp) [] _ rfl rfl ?_
  rw [F9] at h
  refine AW.seq ?_
  refine AW.reg hS [(0, as_ s1)] [] ?_ ?_
  · simp -implicitDefEqProofs only [RUNS, qindex, Nat.reduceAdd, Nat.reduceLeDiff, Nat.reduceSub, reduceIte, Nat.reduceEqDiff, Nat.reduceLT, reduceCtorEq, Nat.reduceMul, Nat.reduceBEq, Int.reduceEq, if_true, if_false, eq_self, ne_eq, env_bT, Token.pv_eq, Part.pv_eq]
  refine AW.seq ?_
  refine AW.seq ?_
  replace h := Option.bind_eq_some_iff.1 h; obtain ⟨r3, q4, h⟩ := h
  have f5 := c_F10 s1 r3 q4
  try dsimp only at f5
  refine AW.reg hS [(0, as_ s1), (4, ab r3)] [] ?_ ?_
  · simp -implicitDefEqProofs only [RUNS, qindex, Nat.reduceAdd, Nat.reduceLeDiff, Nat.reduceSub, reduceIte, Nat.reduceEqDiff, Nat.reduceLT, reduceCtorEq, Nat.reduceMul, Nat.reduceBEq, Int.reduceEq, if_true, if_false, eq_self, ne_eq, env_bT, T_9, Token.pv_eq, Part.pv_eq, pf_10, f5]
  refine AW.cond (b := r3) rfl (fun hb6 => ?_) (fun hb6 => ?_)
  · replace h := bif_t hb6 h
    refine AW.seq ?_
    refine AW.reg hS [(2, as_ s1)] [] ?_ ?_
    · simp -implicitDefEqProofs only [RUNS, qindex, Nat.reduceAdd, Nat.reduceLeDiff, Nat.reduceSub, reduceIte, Nat.reduceEqDiff, Nat.reduceLT, reduceCtorEq, Nat.reduceMul, Nat.reduceBEq, Int.reduceEq, if_true, if_false, eq_self, ne_eq, env_bT, Token.pv_eq, Part.pv_eq]
    refine AW.ret ?_
    cases h
    show finish _ _ _ _ _ = _
    first | rfl | (simp [finish, resOf, renArgs, toPV, selObjs, sl])
  · replace h := bif_f hb6 h
    refine AW.skip ?_
    refine AW.seq ?_
    replace h := Option.bind_eq_some_iff.1 h; obtain ⟨t7, q8, h⟩ := h
    have f9 := c_L_ReplaceAll s1 [39] [39, 39] t7 q8
    try dsimp only at f9
    try simp only [List.map_cons, List.map_nil, Token.pv_eq, Part.pv_eq] at f9
    replace h := Option.bind_eq_some_iff.1 h; obtain ⟨s10, q11, h⟩ := h
    have f12 := catO_f q11
    try simp only [List.length_cons, List.length_nil, Nat.zero_add, Nat.reduceAdd, Nat.reduceLeDiff, Nat.add_zero, Nat.reduceMul] at f12
    replace h := Option.bind_eq_some_iff.1 h; obtain ⟨s13, q14, h⟩ := h
    have f15 := catO_f q14
    try simp only [List.length_cons, List.length_nil, Nat.zero_add, Nat.reduceAdd, Nat.reduceLeDiff, Nat.add_zero, Nat.reduceMul] at f15
    refine AW.reg hS [(2, as_ s13)] [] ?_ ?_
    · simp -implicitDefEqProofs only [RUNS, qindex, Nat.reduceAdd, Nat.reduceLeDiff, Nat.reduceSub, reduceIte, Nat.reduceEqDiff, Nat.reduceLT, reduceCtorEq, Nat.reduceMul, Nat.reduceBEq, Int.reduceEq, if_true, if_false, eq_self, ne_eq, env_bT, T_9, Token.pv_eq, Part.pv_eq, pf_23, f9, eqT_9, f12.1, f12.2, f15.1, f15.2]
    refine AW.ret ?_
    cases h
    show finish _ _ _ _ _ = _
    first | rfl | (simp [finish, resOf, renArgs, toPV, selObjs, sl])

set_option maxHeartbeats 4000000 in
theorem g_F4 {O : Orc} (hS : Sound env O) (hpf : O.pf = pfn) (c_F5 : C_F5 O) (c_F8 : C_F8 O) (c_F9 : C_F9 O) (c_F10 : C_F10 O)  (r1 : Bool) (h : F4 = some r1) : Good env 4 [] [] [ab r1] [] := by
  have pf_5 : O.pf 5 = true := by rw [hpf]; rfl
  have pf_8 : O.pf 8 = true := by rw [hpf]; rfl
  have pf_9 : O.pf 9 = true := by rw [hpf]; rfl
  have pf_10 : O.pf 10 = true := by rw [hpf]; rfl
  refine Good.start (fn := Tryz.f4) (N := 137) fn_4 rfl rfl (by simp) [] _ rfl rfl ?_
  rw [F4] at h
  refine AW.seq ?_
  refine AW.reg hS [] [] ?_ ?_
  · simp -implicitDefEqProofs only [RUNS, qindex, Nat.reduceAdd, Nat.reduceLeDiff, Nat.reduceSub, reduceIte, Nat.reduceEqDiff, Nat.reduceLT, reduceCtorEq, Nat.reduceMul, Nat.reduceBEq, Int.reduceEq, if_true, if_false, eq_self, ne_eq, env_bT, Token.pv_eq, Part.pv_eq]
  refine AW.seq ?_
  replace h := Option.bind_eq_some_iff.1 h; obtain ⟨⟨r2, r3, r4⟩, q5, h⟩ := h
  dsimp only at h
  have f6 := c_F5 [101, 99, 104, 111, 32, 36, 120, 46, 99] r2 r3 r4 q5
  try dsimp only at f6
  try simp only [List.map_cons, List.map_nil, Token.pv_eq, Part.pv_eq] at f6
  refine AW.reg hS [(1, .pv (.slice (List.map Token.pv r2))), (2, ai r3), (3, ai r4)] [] ?_ ?_
  · simp -implicitDefEqProofs only [RUNS, qindex, Nat.reduceAdd, Nat.reduceLeDiff, Nat.reduceSub, reduceIte, Nat.reduceEqDiff, Nat.reduceLT, reduceCtorEq, Nat.reduceMul, Nat.reduceBEq, Int.reduceEq, if_true, if_false, eq_self, ne_eq, env_bT, T_9, Token.pv_eq, Part.pv_eq, pf_5, f6]
  refine AW.seq ?_
  replace h := Option.bind_eq_some_iff.1 h; obtain ⟨⟨r7, r8, r9⟩, q10, h⟩ := h
  dsimp only at h
  have f11 := c_F5 [99, 97, 116, 32, 60, 60, 69, 10, 120, 10, 69, 10, 108, 115] r7 r8 r9 q10
  try dsimp only at f11
  try simp only [List.map_cons, List.map_nil, Token.pv_eq, Part.pv_eq] at f11
  refine AW.reg hS [(1, .pv (.slice (List.map Token.pv r2))), (2, ai r3), (3, ai r4), (4, .pv (.slice (List.map Token.pv r7))), (6, ai r9)] [] ?_ ?_
  · simp -implicitDefEqProofs only [RUNS, qindex, Nat.reduceAdd, Nat.reduceLeDiff, Nat.reduceSub, reduceIte, Nat.reduceEqDiff, Nat.reduceLT, reduceCtorEq, Nat.reduceMul, Nat.reduceBEq, Int.reduceEq, if_true, if_false, eq_self, ne_eq, env_bT, T_9, Token.pv_eq, Part.pv_eq, pf_5, f11]
  refine AW.seq ?_
  replace h := Option.bind_eq_some_iff.1 h; obtain ⟨⟨r12, r13, r14⟩, q15, h⟩ := h
  dsimp only at h
  have f16 := c_F5 [97, 62, 91, 54, 52, 93, 98] r12 r13 r14 q15
  try dsimp only at f16
  try simp only [List.map_cons, List.map_nil, Token.pv_eq, Part.pv_eq] at f16
  refine AW.reg hS [(1, .pv (.slice (List.map Token.pv r2))), (2, ai r3), (3, ai r4), (4, .pv (.slice (List.map Token.pv r7))), (6, ai r9), (8, ai r13), (9, ai r14)] [] ?_ ?_
  · simp -implicitDefEqProofs only [RUNS, qindex, Nat.reduceAdd, Nat.reduceLeDiff, Nat.reduceSub, reduceIte, Nat.reduceEqDiff, Nat.reduceLT, reduceCtorEq, Nat.reduceMul, Nat.reduceBEq, Int.reduceEq, if_true, if_false, eq_self, ne_eq, env_bT, T_9, Token.pv_eq, Part.pv_eq, pf_5, f16]
  refine AW.seq ?_
  replace h := Option.bind_eq_some_iff.1 h; obtain ⟨⟨r17, r18, r19⟩, q20, h⟩ := h
  dsimp only at h
  have f21 := c_F5 [97, 39, 98] r17 r18 r19 q20
  try dsimp only at f21
  try simp only [List.map_cons, List.map_nil, Token.pv_eq, Part.pv_eq] at f21
  refine AW.reg hS [(1, .pv (.slice (List.map Token.pv r2))), (2, ai r3), (3, ai r4), (4, .pv (.slice (List.map Token.pv r7))), (6, ai r9), (8, ai r13), (9, ai r14), (11, ai r18), (12, ai r19)] [] ?_ ?_
  · simp -implicitDefEqProofs only [RUNS, qindex, Nat.reduceAdd, Nat.reduceLeDiff, Nat.reduceSub, reduceIte, Nat.reduceEqDiff, Nat.reduceLT, reduceCtorEq, Nat.reduceMul, Nat.reduceBEq, Int.reduceEq, if_true, if_false, eq_self, ne_eq, env_bT, T_9, Token.pv_eq, Part.pv_eq, pf_5, f21]
  refine AW.seq ?_
  replace h := Option.bind_eq_some_iff.1 h; obtain ⟨⟨r22, r23, r24⟩, q25, h⟩ := h
  dsimp only at h
  have f26 := c_F8 [97, 10, 98, 10, 69, 79, 70, 10, 99] 0 [69, 79, 70] r22 r23 r24 q25
  try dsimp only at f26
  try simp only [List.map_cons, List.map_nil, Token.pv_eq, Part.pv_eq] at f26
  refine AW.reg hS [(1, .pv (.slice (List.map Token.pv r2))), (2, ai r3), (3, ai r4), (4, .pv (.slice (List.map Token.pv r7))), (6, ai r9), (8, ai r13), (9, ai r14), (11, ai r18), (12, ai r19), (13, as_ r22), (14, ai r23), (15, ai r24)] [] ?_ ?_
  · simp -implicitDefEqProofs only [RUNS, qindex, Nat.reduceAdd, Nat.reduceLeDiff, Nat.reduceSub, reduceIte, Nat.reduceEqDiff, Nat.reduceLT, reduceCtorEq, Nat.reduceMul, Nat.reduceBEq, Int.reduceEq, if_true, if_false, eq_self, ne_eq, env_bT, T_3, T_9, Token.pv_eq, Part.pv_eq, pf_8, f26]
  refine AW.seq ?_
  refine AW.seq ?_
  refine AW.reg hS [(1, .pv (.slice (List.map Token.pv r2))), (2, ai r3), (3, ai r4), (4, .pv (.slice (List.map Token.pv r7))), (6, ai r9), (8, ai r13), (9, ai r14), (11, ai r18), (12, ai r19), (13, as_ r22), (14, ai r23), (15, ai r24), (48, ab (!decide ((r2.length : Int) = 5) || !decide ((r7.length : Int) = 4)))] [] ?_ ?_
  · clear h
    (simp -implicitDefEqProofs only [RUNS, qindex, Nat.reduceAdd, Nat.reduceLeDiff, Nat.reduceSub, reduceIte, Nat.reduceEqDiff, Nat.reduceLT, reduceCtorEq, Nat.reduceMul, Nat.reduceBEq, Int.reduceEq, if_true, if_false, eq_self, ne_eq, env_bT, T_3, T_23, T_32, Token.pv_eq, Part.pv_eq, eqT_3]); repeat' (split <;> rename_i hb <;> (try simp only [HBS, ge_iff_le, gt_iff_lt] at hb) <;> simp -implicitDefEqProofs only [RUNS, qindex, Nat.reduceAdd, Nat.reduceLeDiff, Nat.reduceSub, reduceIte, Nat.reduceEqDiff, Nat.reduceLT, reduceCtorEq, Nat.reduceMul, Nat.reduceBEq, Int.reduceEq, if_true, if_false, eq_self, ne_eq, env_bT, T_3, T_23, T_32, Token.pv_eq, Part.pv_eq, eqT_3, *, decide_true, decide_false, Decidable.not_not, not_false_eq_true, not_true_eq_false])
    all_goals (first | (simp only [BOOLS]; done) | (simp [*]; done) | ((try simp only [CLOS, beq_iff_eq, bne_iff_ne, ne_eq] at *) <;> omega) | (simp_all; done) | (simp_all <;> omega))
  refine AW.cond (b := (!decide ((r2.length : Int) = 5) || !decide ((r7.length : Int) = 4))) rfl (fun hb27 => ?_) (fun hb27 => ?_)
  · replace h := bif_t hb27 h
    refine AW.seq ?_
    refine AW.reg hS [(0, ab false)] [] ?_ ?_
    · simp -implicitDefEqProofs only [RUNS, qindex, Nat.reduceAdd, Nat.reduceLeDiff, Nat.reduceSub, reduceIte, Nat.reduceEqDiff, Nat.reduceLT, reduceCtorEq, Nat.reduceMul, Nat.reduceBEq, Int.reduceEq, if_true, if_false, eq_self, ne_eq, env_bT, Token.pv_eq, Part.pv_eq]
    refine AW.ret ?_
    cases h
    show finish _ _ _ _ _ = _
    first | rfl | (simp [finish, resOf, renArgs, toPV, selObjs, sl])
  · replace h := bif_f hb27 h
    refine AW.skip ?_
    refine AW.seq ?_
    replace h := Option.bind_eq_some_iff.1 h; obtain ⟨u28, q29, h⟩ := h
    have f30 := lidx_f q29
    replace h := Option.bind_eq_some_iff.1 h; obtain ⟨u31, q32, h⟩ := h
    have f33 := lidx_g (guardO_t q32)
    replace h := Option.bind_eq_some_iff.1 h; obtain ⟨u34, q35, h⟩ := h
    have f36 := lidx_g (guardO_t q35)
    replace h := Option.bind_eq_some_iff.1 h; obtain ⟨u37, q38, h⟩ := h
    have f39 := lidx_g (guardO_t q38)
    replace h := Option.bind_eq_some_iff.1 h; obtain ⟨r40, q41, h⟩ := h
    have f42 := fun hg => c_F9 [105, 116, 39, 115] r40 (guardO_t q41 hg)
    try dsimp only at f42
    try simp only [List.map_cons, List.map_nil, Token.pv_eq, Part.pv_eq] at f42
    replace h := Option.bind_eq_some_iff.1 h; obtain ⟨r43, q44, h⟩ := h
    have f45 := fun hg => c_F9 [97] r43 (guardO_t q44 hg)
    try dsimp only at f45
    try simp only [List.map_cons, List.map_nil, Token.pv_eq, Part.pv_eq] at f45
    replace h := Option.bind_eq_some_iff.1 h; obtain ⟨r46, q47, h⟩ := h
    have f48 := fun hg => c_F10 [42] r46 (guardO_t q47 hg)
    try dsimp only at f48
    try simp only [List.map_cons, List.map_nil, Token.pv_eq, Part.pv_eq] at f48
    replace h := Option.bind_eq_some_iff.1 h; obtain ⟨r49, q50, h⟩ := h
    have f51 := fun hg => c_F10 [97, 33, 98] r49 (guardO_t q50 hg)
    try dsimp only at f51
    try simp only [List.map_cons, List.map_nil, Token.pv_eq, Part.pv_eq] at f51
    refine AW.reg hS [(0, ab (((((((((((((((((((decide (u28.kind_ = 2) && (decide (u28.at_ = 7) && (decide (u28.text_ = [94]) && (decide (u28.quoted_ = []))))) && (decide (u31.kind_ = 1) && (decide (u31.at_ = 7) && (decide (u31.text_ = [46, 99]) && (decide (u31.quoted_ = [48, 48])))))) && decide (r3 = 0)) && decide (r4 = 0)) && decide (r9 = 0)) && decide (u34.kind_ = 4)) && decide (u34.text_ = [69])) && decide (u37.at_ = 12)) && decide (r13 = 2)) && decide (r14 = 47)) && decide (r18 = 1)) && decide (r19 = 48)) && decide (r22 = [97, 10, 98, 10])) && decide (r23 = 8)) && decide (r24 = 0)) && decide (r40 = [39, 105, 116, 39, 39, 115, 39])) && decide (r43 = [97])) && !r46) && r49))] [] ?_ ?_
    · clear h
      (simp -implicitDefEqProofs only [RUNS, qindex, Nat.reduceAdd, Nat.reduceLeDiff, Nat.reduceSub, reduceIte, Nat.reduceEqDiff, Nat.reduceLT, reduceCtorEq, Nat.reduceMul, Nat.reduceBEq, Int.reduceEq, if_true, if_false, eq_self, ne_eq, env_bT, T_3, T_9, T_23, T_24, T_32, Token.pv_eq, Part.pv_eq, f30.1, f30.2.1, ownT_32, eqT_32, f33.1, f33.2.1, eqT_3, eqT_24, f36.1, f36.2.1, eqT_9, f39.1, f39.2.1, pf_9, f42, f45, pf_10, f48, f51]); repeat' (split <;> rename_i hb <;> (try simp only [HBS, ge_iff_le, gt_iff_lt] at hb) <;> simp -implicitDefEqProofs only [RUNS, qindex, Nat.reduceAdd, Nat.reduceLeDiff, Nat.reduceSub, reduceIte, Nat.reduceEqDiff, Nat.reduceLT, reduceCtorEq, Nat.reduceMul, Nat.reduceBEq, Int.reduceEq, if_true, if_false, eq_self, ne_eq, env_bT, T_3, T_9, T_23, T_24, T_32, Token.pv_eq, Part.pv_eq, f30.1, f30.2.1, ownT_32, eqT_32, f33.1, f33.2.1, eqT_3, eqT_24, f36.1, f36.2.1, eqT_9, f39.1, f39.2.1, pf_9, f42, f45, pf_10, f48, f51, *, decide_true, decide_false, Decidable.not_not, not_false_eq_true, not_true_eq_false])
      all_goals (first | (simp only [BOOLS]; done) | (simp [*]; done) | ((try simp only [CLOS, beq_iff_eq, bne_iff_ne, ne_eq] at *) <;> omega) | (simp_all; done) | (simp_all <;> omega))
    refine AW.ret ?_
    cases h
    show finish _ _ _ _ _ = _
    first | rfl | (simp [finish, resOf, renArgs, toPV, selObjs, sl])

set_option maxHeartbeats 4000000 in
theorem g_F53 {O : Orc} (hS : Sound env O) (hpf : O.pf = pfn) (c1 : Int) (r2 : Bool) (h : F53 c1 = some r2) : Good env 53 [.pv (.int .u8 c1)] [] [ab r2] [] := by
  refine Good.start (fn := Tryz.f53) (N := 33) fn_53 rfl rfl (by simp) [] _ rfl rfl ?_
  rw [F53] at h
  refine AW.seq ?_
  refine AW.reg hS [(0, .pv (.int .u8 c1))] [] ?_ ?_
  · simp -implicitDefEqProofs only [RUNS, qindex, Nat.reduceAdd, Nat.reduceLeDiff, Nat.reduceSub, reduceIte, Nat.reduceEqDiff, Nat.reduceLT, reduceCtorEq, Nat.reduceMul, Nat.reduceBEq, Int.reduceEq, if_true, if_false, eq_self, ne_eq, env_bT, Token.pv_eq, Part.pv_eq]
  refine AW.seq ?_
  refine AW.reg hS [(2, ab (((((decide (97 ≤ c1) && decide (c1 ≤ 122)) || (decide (65 ≤ c1) && decide (c1 ≤ 90))) || (decide (48 ≤ c1) && decide (c1 ≤ 57))) || decide (c1 = 95)) || decide (c1 = 42)))] [] ?_ ?_
  · clear h
    (simp -implicitDefEqProofs only [RUNS, qindex, Nat.reduceAdd, Nat.reduceLeDiff, Nat.reduceSub, reduceIte, Nat.reduceEqDiff, Nat.reduceLT, reduceCtorEq, Nat.reduceMul, Nat.reduceBEq, Int.reduceEq, if_true, if_false, eq_self, ne_eq, env_bT, T_5, Token.pv_eq, Part.pv_eq, eqT_5]); repeat' (split <;> rename_i hb <;> (try simp only [HBS, ge_iff_le, gt_iff_lt] at hb) <;> simp -implicitDefEqProofs only [RUNS, qindex, Nat.reduceAdd, Nat.reduceLeDiff, Nat.reduceSub, reduceIte, Nat.reduceEqDiff, Nat.reduceLT, reduceCtorEq, Nat.reduceMul, Nat.reduceBEq, Int.reduceEq, if_true, if_false, eq_self, ne_eq, env_bT, T_5, Token.pv_eq, Part.pv_eq, eqT_5, *, decide_true, decide_false, Decidable.not_not, not_false_eq_true, not_true_eq_false])
    all_goals (first | (simp only [BOOLS]; done) | (simp [*]; done) | ((try simp only [CLOS, beq_iff_eq, bne_iff_ne, ne_eq] at *) <;> omega) | (simp_all; done) | (simp_all <;> omega))
  refine AW.ret ?_
  cases h
  show finish _ _ _ _ _ = _
  first | rfl | (simp [finish, resOf, renArgs, toPV, selObjs, sl])

set_option maxHeartbeats 4000000 in
theorem g_F19 {O : Orc} (hS : Sound env O) (hpf : O.pf = pfn) (xat1 : Int) (xend2 : Int) (xname3 : Bool) (xe4 : Int) (xoff5 : Int) (e6 : Int) (off7 : Int) (l8 : List Token) (l9 : List Str) (at10 : Int) (end11 : Int) (name12 : Bool) (e13 : Int) (off14 : Int) (h : F19 xat1 xend2 xname3 xe4 xoff5 e6 off7 l8 l9 = some (at10, end11, name12, e13, off14)) : Good env 19 [.agg [ai xat1, .vec 0 l8.length, ai xend2, ab xname3, .vec 1 l9.length, ai xe4, ai xoff5], ai e6, ai off7] [.row 32 4 (List.map Token.pv l8) true, .row 9 1 (List.map PV.str l9) true] [.agg [ai at10, .vec 0 l8.length, ai end11, ab name12, .vec 1 l9.length, ai e13, ai off14]] [.row 32 4 (List.map Token.pv l8) true, .row 9 1 (List.map PV.str l9) true] := by
  refine Good.start (fn := Tryz.f19) (N := 15) fn_19 rfl rfl (by simp) [] _ rfl rfl ?_
  rw [F19] at h
  refine AW.seq ?_
  refine AW.reg hS [(1, ai e6), (2, ai off7), (3, .ref 2 0), (6, .ref 3 0)] [.row 32 4 (List.map Token.pv l8) true, .row 9 1 (List.map PV.str l9) true, .var [ai xat1, .vec 0 l8.length, ai xend2, ab xname3, .vec 1 l9.length, ai xe4, ai xoff5], .var [ai 0, .nils, ai 0, ab false, .nils, ai 0, ai 0]] ?_ ?_
  · simp -implicitDefEqProofs only [RUNS, qindex, Nat.reduceAdd, Nat.reduceLeDiff, Nat.reduceSub, reduceIte, Nat.reduceEqDiff, Nat.reduceLT, reduceCtorEq, Nat.reduceMul, Nat.reduceBEq, Int.reduceEq, if_true, if_false, eq_self, ne_eq, env_bT, T_42, Token.pv_eq, Part.pv_eq]
  refine AW.seqM ⟨sl [(3, .ref 2 0), (6, .ref 3 0)], 15, [.row 32 4 (List.map Token.pv l8) true, .row 9 1 (List.map PV.str l9) true, .var [ai xat1, .vec 0 l8.length, ai xend2, ab xname3, .vec 1 l9.length, ai (bif decide (xe4 = 0) then e6 else xe4), ai (bif decide (xe4 = 0) then off7 else xoff5)], .var [ai 0, .nils, ai 0, ab false, .nils, ai 0, ai 0]]⟩ ?_ ?_
  · refine AW.seq ?_
    refine AW.reg hS [(1, ai e6), (2, ai off7), (3, .ref 2 0), (6, .ref 3 0), (9, ab (decide (xe4 = 0)))] [.row 32 4 (List.map Token.pv l8) true, .row 9 1 (List.map PV.str l9) true, .var [ai xat1, .vec 0 l8.length, ai xend2, ab xname3, .vec 1 l9.length, ai xe4, ai xoff5], .var [ai 0, .nils, ai 0, ab false, .nils, ai 0, ai 0]] ?_ ?_
    · simp -implicitDefEqProofs only [RUNS, qindex, Nat.reduceAdd, Nat.reduceLeDiff, Nat.reduceSub, reduceIte, Nat.reduceEqDiff, Nat.reduceLT, reduceCtorEq, Nat.reduceMul, Nat.reduceBEq, Int.reduceEq, if_true, if_false, eq_self, ne_eq, env_bT, T_24, T_42, Token.pv_eq, Part.pv_eq, eqT_24]
    refine AW.cond (b := decide (xe4 = 0)) rfl (fun hb15 => ?_) (fun hb15 => ?_)
    · refine AW.seq ?_
      refine AW.reg hS [(2, ai off7), (3, .ref 2 0), (6, .ref 3 0)] [.row 32 4 (List.map Token.pv l8) true, .row 9 1 (List.map PV.str l9) true, .var [ai xat1, .vec 0 l8.length, ai xend2, ab xname3, .vec 1 l9.length, ai e6, ai xoff5], .var [ai 0, .nils, ai 0, ab false, .nils, ai 0, ai 0]] ?_ ?_
      · simp -implicitDefEqProofs only [RUNS, qindex, Nat.reduceAdd, Nat.reduceLeDiff, Nat.reduceSub, reduceIte, Nat.reduceEqDiff, Nat.reduceLT, reduceCtorEq, Nat.reduceMul, Nat.reduceBEq, Int.reduceEq, if_true, if_false, eq_self, ne_eq, env_bT, T_24, T_42, Token.pv_eq, Part.pv_eq]
      refine AW.reg hS [(3, .ref 2 0), (6, .ref 3 0)] [.row 32 4 (List.map Token.pv l8) true, .row 9 1 (List.map PV.str l9) true, .var [ai xat1, .vec 0 l8.length, ai xend2, ab xname3, .vec 1 l9.length, ai e6, ai off7], .var [ai 0, .nils, ai 0, ab false, .nils, ai 0, ai 0]] ?_ ?_
      · simp -implicitDefEqProofs only [RUNS, qindex, Nat.reduceAdd, Nat.reduceLeDiff, Nat.reduceSub, reduceIte, Nat.reduceEqDiff, Nat.reduceLT, reduceCtorEq, Nat.reduceMul, Nat.reduceBEq, Int.reduceEq, if_true, if_false, eq_self, ne_eq, env_bT, T_3, T_42, Token.pv_eq, Part.pv_eq]
      exact Weak.of_eq (Weak.slots (L := [(3, .ref 2 0), (6, .ref 3 0)]) ⟨rfl, rfl, trivial⟩) (by simp only [hb15, cond_true, cond_false, Bool.true_or, Bool.false_or, Bool.true_and, Bool.false_and, Bool.or_true, Bool.or_false, Bool.and_true, Bool.and_false, Bool.not_true, Bool.not_false])
    · refine AW.skip ?_
      exact Weak.of_eq (Weak.slots (L := [(3, .ref 2 0), (6, .ref 3 0)]) ⟨rfl, rfl, trivial⟩) (by simp only [hb15, cond_true, cond_false, Bool.true_or, Bool.false_or, Bool.true_and, Bool.false_and, Bool.or_true, Bool.or_false, Bool.and_true, Bool.and_false, Bool.not_true, Bool.not_false])
  refine AW.seq ?_
  refine AW.reg hS [(6, .ref 3 0)] [.row 32 4 (List.map Token.pv l8) true, .row 9 1 (List.map PV.str l9) true, .var [ai xat1, .vec 0 l8.length, ai xend2, ab xname3, .vec 1 l9.length, ai (bif decide (xe4 = 0) then e6 else xe4), ai (bif decide (xe4 = 0) then off7 else xoff5)], .var [ai xat1, .vec 0 l8.length, ai xend2, ab xname3, .vec 1 l9.length, ai (bif decide (xe4 = 0) then e6 else xe4), ai (bif decide (xe4 = 0) then off7 else xoff5)]] ?_ ?_
  · simp -implicitDefEqProofs only [RUNS, qindex, Nat.reduceAdd, Nat.reduceLeDiff, Nat.reduceSub, reduceIte, Nat.reduceEqDiff, Nat.reduceLT, reduceCtorEq, Nat.reduceMul, Nat.reduceBEq, Int.reduceEq, if_true, if_false, eq_self, ne_eq, env_bT, T_42, Token.pv_eq, Part.pv_eq]
  refine AW.ret ?_
  cases h
  show finish _ _ _ _ _ = _
  first | rfl | (simp [finish, resOf, renArgs, toPV, selObjs, sl])

end Go.Abs.U47
