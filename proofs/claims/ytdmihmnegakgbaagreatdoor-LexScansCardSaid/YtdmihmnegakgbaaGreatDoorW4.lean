/- The layer 47 laws: the functions walked. -/
import Derived.Test.YtdmihmnegakgbaaGreatDoorD1
set_option linter.unusedVariables false
set_option linter.unusedSimpArgs false
set_option maxRecDepth 8000
namespace Go.Abs.U47
open Go.RowKit Go.Proofs

set_option maxHeartbeats 4000000 in
theorem g_F39 {O : Orc} (hS : Sound env O) (hpf : O.pf = pfn) (c_F35 : C_F35 O) (xat1 : Int) (xend2 : Int) (xname3 : Bool) (xe4 : Int) (xoff5 : Int) (l6 : List Token) (l7 : List Str) (at8 : Int) (end9 : Int) (name10 : Bool) (e11 : Int) (off12 : Int) (o13 : List Token) (h : F39 xat1 xend2 xname3 xe4 xoff5 l6 l7 = some (at8, end9, name10, e11, off12, o13)) : Good env 39 [.agg [ai xat1, .vec 0 l6.length, ai xend2, ab xname3, .vec 1 l7.length, ai xe4, ai xoff5]] [.row 32 4 (List.map Token.pv l6) true, .row 9 1 (List.map PV.str l7) true] [.agg [ai at8, .vec 0 o13.length, ai end9, ab name10, .vec 1 l7.length, ai e11, ai off12]] [.row 32 4 (List.map Token.pv o13) true, .row 9 1 (List.map PV.str l7) true] := by
  have pf_35 : O.pf 35 = false := by rw [hpf]; rfl
  refine Good.start (fn := Tryz.f39) (N := 14) fn_39 rfl rfl (by simp) [] _ rfl rfl ?_
  rw [F39] at h
  refine AW.seq ?_
  refine AW.reg hS [(1, .ref 2 0), (2, .ref 3 0)] [.row 32 4 (List.map Token.pv l6) true, .row 9 1 (List.map PV.str l7) true, .var [ai xat1, .vec 0 l6.length, ai xend2, ab xname3, .vec 1 l7.length, ai xe4, ai xoff5], .var [ai 0, .nils, ai 0, ab false, .nils, ai 0, ai 0]] ?_ ?_
  · simp -implicitDefEqProofs only [RUNS, qindex, Nat.reduceAdd, Nat.reduceLeDiff, Nat.reduceSub, reduceIte, Nat.reduceEqDiff, Nat.reduceLT, reduceCtorEq, Nat.reduceMul, Nat.reduceBEq, Int.reduceEq, if_true, if_false, eq_self, ne_eq, env_bT, T_42, Token.pv_eq, Part.pv_eq]
  refine AW.seq ?_
  refine AW.seq ?_
  refine AW.reg hS [(1, .ref 2 0), (2, .ref 3 0), (7, ab (decide (xend2 = xat1)))] [.row 32 4 (List.map Token.pv l6) true, .row 9 1 (List.map PV.str l7) true, .var [ai xat1, .vec 0 l6.length, ai xend2, ab xname3, .vec 1 l7.length, ai xe4, ai xoff5], .var [ai 0, .nils, ai 0, ab false, .nils, ai 0, ai 0]] ?_ ?_
  · simp -implicitDefEqProofs only [RUNS, qindex, Nat.reduceAdd, Nat.reduceLeDiff, Nat.reduceSub, reduceIte, Nat.reduceEqDiff, Nat.reduceLT, reduceCtorEq, Nat.reduceMul, Nat.reduceBEq, Int.reduceEq, if_true, if_false, eq_self, ne_eq, env_bT, T_3, T_42, Token.pv_eq, Part.pv_eq, eqT_3]
  refine AW.cond (b := decide (xend2 = xat1)) rfl (fun hb14 => ?_) (fun hb14 => ?_)
  · replace h := bif_t hb14 h
    refine AW.seq ?_
    replace h := Option.bind_eq_some_iff.1 h; obtain ⟨⟨at15, end16, name17, e18, off19, o20⟩, q21, h⟩ := h
    dsimp only at h
    have f22 := c_F35 xat1 xend2 xname3 xe4 xoff5 (Token.mk 2 xat1 [94] []) l6 l7 at15 end16 name17 e18 off19 o20 q21
    try dsimp only at f22
    have e23 : ecall O [.row 32 4 (List.map Token.pv l6) true, .row 9 1 (List.map PV.str l7) true, .var [ai xat1, .vec 0 l6.length, ai xend2, ab xname3, .vec 1 l7.length, ai xe4, ai xoff5], .var [ai 0, .nils, ai 0, ab false, .nils, ai 0, ai 0]] 35 [.agg [ai xat1, .vec 0 l6.length, ai xend2, ab xname3, .vec 1 l7.length, ai xe4, ai xoff5], .pv (.agg [.int .i64 2, .int .i64 xat1, .str [94], .str []])] = some (retAV [.agg [ai at15, .vec 0 o20.length, ai end16, ab name17, .vec 1 l7.length, ai e18, ai off19]], [.row 32 4 (List.map Token.pv o20) true, .row 9 1 (List.map PV.str l7) true, .var [ai xat1, .vec 0 l6.length, ai xend2, ab xname3, .vec 1 l7.length, ai xe4, ai xoff5], .var [ai 0, .nils, ai 0, ab false, .nils, ai 0, ai 0]]) := ecall_eq rfl rfl rfl f22 rfl rfl rfl
    refine AW.reg hS [(2, .ref 3 0)] [.row 32 4 (List.map Token.pv o20) true, .row 9 1 (List.map PV.str l7) true, .var [ai xat1, .vec 0 l6.length, ai xend2, ab xname3, .vec 1 l7.length, ai xe4, ai xoff5], .var [ai at15, .vec 0 o20.length, ai end16, ab name17, .vec 1 l7.length, ai e18, ai off19]] ?_ ?_
    · simp -implicitDefEqProofs only [RUNS, qindex, Nat.reduceAdd, Nat.reduceLeDiff, Nat.reduceSub, reduceIte, Nat.reduceEqDiff, Nat.reduceLT, reduceCtorEq, Nat.reduceMul, Nat.reduceBEq, Int.reduceEq, if_true, if_false, eq_self, ne_eq, env_bT, T_3, T_32, T_42, Token.pv_eq, Part.pv_eq, ownT_32, pf_35, e23]
    refine AW.ret ?_
    cases h
    show finish _ _ _ _ _ = _
    first | rfl | (simp [finish, resOf, renArgs, toPV, selObjs, sl])
  · replace h := bif_f hb14 h
    refine AW.skip ?_
    refine AW.seq ?_
    refine AW.reg hS [(2, .ref 3 0)] [.row 32 4 (List.map Token.pv l6) true, .row 9 1 (List.map PV.str l7) true, .var [ai xat1, .vec 0 l6.length, ai xend2, ab xname3, .vec 1 l7.length, ai xe4, ai xoff5], .var [ai xat1, .vec 0 l6.length, ai xend2, ab xname3, .vec 1 l7.length, ai xe4, ai xoff5]] ?_ ?_
    · simp -implicitDefEqProofs only [RUNS, qindex, Nat.reduceAdd, Nat.reduceLeDiff, Nat.reduceSub, reduceIte, Nat.reduceEqDiff, Nat.reduceLT, reduceCtorEq, Nat.reduceMul, Nat.reduceBEq, Int.reduceEq, if_true, if_false, eq_self, ne_eq, env_bT, T_42, Token.pv_eq, Part.pv_eq]
    refine AW.ret ?_
    cases h
    show finish _ _ _ _ _ = _
    first | rfl | (simp [finish, resOf, renArgs, toPV, selObjs, sl])

set_option maxHeartbeats 4000000 in
theorem g_F18 {O : Orc} (hS : Sound env O) (hpf : O.pf = pfn) (c_F33 : C_F33 O) (c_F34 : C_F34 O) (c_F35 : C_F35 O) (c_F36 : C_F36 O) (c_F37 : C_F37 O) (c_F38 : C_F38 O) (c_F19 : C_F19 O) (c_F39 : C_F39 O) (c_F40 : C_F40 O) (s1 : Str) (xat2 : Int) (xend3 : Int) (xname4 : Bool) (xe5 : Int) (xoff6 : Int) (l7 : List Token) (l8 : List Str) (tag9 : Bool) (at10 : Int) (end11 : Int) (name12 : Bool) (e13 : Int) (off14 : Int) (o15 : List Token) (o16 : List Str) (h : F18 s1 xat2 xend3 xname4 xe5 xoff6 l7 l8 = some (tag9, at10, end11, name12, e13, off14, o15, o16)) : Good env 18 [as_ s1, .agg [ai xat2, .vec 0 l7.length, ai xend3, ab xname4, .vec 1 l8.length, ai xe5, ai xoff6]] [.row 32 4 (List.map Token.pv l7) true, .row 9 1 (List.map PV.str l8) true] (bif tag9 then [.agg [ai at10, .vec 0 o15.length, ai end11, ab name12, .vec 1 o16.length, ai e13, ai off14]] else [.agg [ai at10, .vec 0 o15.length, ai end11, ab name12, .nils, ai e13, ai off14]]) (bif tag9 then [.row 32 4 (List.map Token.pv o15) true, .row 9 1 (List.map PV.str o16) true] else [.row 32 4 (List.map Token.pv o15) true, .row 9 1 (List.map PV.str o16) true]) := by
  have pf_19 : O.pf 19 = false := by rw [hpf]; rfl
  have pf_33 : O.pf 33 = false := by rw [hpf]; rfl
  have pf_34 : O.pf 34 = true := by rw [hpf]; rfl
  have pf_35 : O.pf 35 = false := by rw [hpf]; rfl
  have pf_36 : O.pf 36 = false := by rw [hpf]; rfl
  have pf_37 : O.pf 37 = false := by rw [hpf]; rfl
  have pf_38 : O.pf 38 = true := by rw [hpf]; rfl
  have pf_39 : O.pf 39 = false := by rw [hpf]; rfl
  have pf_40 : O.pf 40 = true := by rw [hpf]; rfl
  refine Good.start (fn := Tryz.f18) (N := 171) fn_18 rfl rfl (by simp) [] _ rfl rfl ?_
  rw [F18] at h
  refine AW.seq ?_
  refine AW.reg hS [(0, as_ s1), (3, .ref 2 0), (4, .ref 3 0)] [.row 32 4 (List.map Token.pv l7) true, .row 9 1 (List.map PV.str l8) true, .var [ai xat2, .vec 0 l7.length, ai xend3, ab xname4, .vec 1 l8.length, ai xe5, ai xoff6], .var [ai 0, .nils, ai 0, ab false, .nils, ai 0, ai 0]] ?_ ?_
  · simp -implicitDefEqProofs only [RUNS, qindex, Nat.reduceAdd, Nat.reduceLeDiff, Nat.reduceSub, reduceIte, Nat.reduceEqDiff, Nat.reduceLT, reduceCtorEq, Nat.reduceMul, Nat.reduceBEq, Int.reduceEq, if_true, if_false, eq_self, ne_eq, env_bT, T_42, Token.pv_eq, Part.pv_eq]
  refine AW.seq ?_
  refine AW.seq ?_
  refine AW.reg hS [(0, as_ s1), (3, .ref 2 0), (4, .ref 3 0), (10, ab xname4)] [.row 32 4 (List.map Token.pv l7) true, .row 9 1 (List.map PV.str l8) true, .var [ai xat2, .vec 0 l7.length, ai xend3, ab xname4, .vec 1 l8.length, ai xe5, ai xoff6], .var [ai 0, .nils, ai 0, ab false, .nils, ai 0, ai 0]] ?_ ?_
  · simp -implicitDefEqProofs only [RUNS, qindex, Nat.reduceAdd, Nat.reduceLeDiff, Nat.reduceSub, reduceIte, Nat.reduceEqDiff, Nat.reduceLT, reduceCtorEq, Nat.reduceMul, Nat.reduceBEq, Int.reduceEq, if_true, if_false, eq_self, ne_eq, env_bT, T_4, T_42, Token.pv_eq, Part.pv_eq]
  refine AW.cond (b := xname4) rfl (fun hb17 => ?_) (fun hb17 => ?_)
  · replace h := bif_t hb17 h
    refine AW.seq ?_
    replace h := Option.bind_eq_some_iff.1 h; obtain ⟨⟨at18, end19, name20, e21, off22, o23⟩, q24, h⟩ := h
    dsimp only at h
    have f25 := c_F33 s1 xat2 xend3 xname4 xe5 xoff6 l7 l8 at18 end19 name20 e21 off22 o23 q24
    try dsimp only at f25
    have e26 : ecall O [.row 32 4 (List.map Token.pv l7) true, .row 9 1 (List.map PV.str l8) true, .var [ai xat2, .vec 0 l7.length, ai xend3, ab xname4, .vec 1 l8.length, ai xe5, ai xoff6], .var [ai 0, .nils, ai 0, ab false, .nils, ai 0, ai 0]] 33 [as_ s1, .agg [ai xat2, .vec 0 l7.length, ai xend3, ab xname4, .vec 1 l8.length, ai xe5, ai xoff6]] = some (retAV [.agg [ai at18, .vec 0 o23.length, ai end19, ab name20, .vec 1 l8.length, ai e21, ai off22]], [.row 32 4 (List.map Token.pv o23) true, .row 9 1 (List.map PV.str l8) true, .var [ai xat2, .vec 0 l7.length, ai xend3, ab xname4, .vec 1 l8.length, ai xe5, ai xoff6], .var [ai 0, .nils, ai 0, ab false, .nils, ai 0, ai 0]]) := ecall_eq rfl rfl rfl f25 rfl rfl rfl
    refine AW.reg hS [(4, .ref 3 0)] [.row 32 4 (List.map Token.pv o23) true, .row 9 1 (List.map PV.str l8) true, .var [ai xat2, .vec 0 l7.length, ai xend3, ab xname4, .vec 1 l8.length, ai xe5, ai xoff6], .var [ai at18, .vec 0 o23.length, ai end19, ab name20, .vec 1 l8.length, ai e21, ai off22]] ?_ ?_
    · simp -implicitDefEqProofs only [RUNS, qindex, Nat.reduceAdd, Nat.reduceLeDiff, Nat.reduceSub, reduceIte, Nat.reduceEqDiff, Nat.reduceLT, reduceCtorEq, Nat.reduceMul, Nat.reduceBEq, Int.reduceEq, if_true, if_false, eq_self, ne_eq, env_bT, T_9, T_42, Token.pv_eq, Part.pv_eq, pf_33, e26]
    refine AW.ret ?_
    cases h
    show finish _ _ _ _ _ = _
    first | rfl | (simp [finish, resOf, renArgs, toPV, selObjs, sl])
  · replace h := bif_f hb17 h
    refine AW.skip ?_
    refine AW.seq ?_
    refine AW.seq ?_
    replace h := Option.bind_eq_some_iff.1 h; obtain ⟨r27, q28, h⟩ := h
    have f29 := c_F34 s1 xat2 r27 q28
    try dsimp only at f29
    refine AW.reg hS [(0, as_ s1), (3, .ref 2 0), (4, .ref 3 0), (5, ai r27)] [.row 32 4 (List.map Token.pv l7) true, .row 9 1 (List.map PV.str l8) true, .var [ai xat2, .vec 0 l7.length, ai xend3, ab xname4, .vec 1 l8.length, ai xe5, ai xoff6], .var [ai 0, .nils, ai 0, ab false, .nils, ai 0, ai 0]] ?_ ?_
    · simp -implicitDefEqProofs only [RUNS, qindex, Nat.reduceAdd, Nat.reduceLeDiff, Nat.reduceSub, reduceIte, Nat.reduceEqDiff, Nat.reduceLT, reduceCtorEq, Nat.reduceMul, Nat.reduceBEq, Int.reduceEq, if_true, if_false, eq_self, ne_eq, env_bT, T_3, T_9, T_42, Token.pv_eq, Part.pv_eq, pf_34, f29]
    refine AW.seq ?_
    refine AW.reg hS [(0, as_ s1), (3, .ref 2 0), (4, .ref 3 0), (5, ai r27), (19, ab (decide (0 < r27)))] [.row 32 4 (List.map Token.pv l7) true, .row 9 1 (List.map PV.str l8) true, .var [ai xat2, .vec 0 l7.length, ai xend3, ab xname4, .vec 1 l8.length, ai xe5, ai xoff6], .var [ai 0, .nils, ai 0, ab false, .nils, ai 0, ai 0]] ?_ ?_
    · simp -implicitDefEqProofs only [RUNS, qindex, Nat.reduceAdd, Nat.reduceLeDiff, Nat.reduceSub, reduceIte, Nat.reduceEqDiff, Nat.reduceLT, reduceCtorEq, Nat.reduceMul, Nat.reduceBEq, Int.reduceEq, if_true, if_false, eq_self, ne_eq, env_bT, T_3, Token.pv_eq, Part.pv_eq, eqT_3]
    refine AW.cond (b := decide (0 < r27)) rfl (fun hb30 => ?_) (fun hb30 => ?_)
    · replace h := bif_t hb30 h
      refine AW.seq ?_
      refine AW.reg hS [(3, .ref 2 0), (4, .ref 3 0)] [.row 32 4 (List.map Token.pv l7) true, .row 9 1 (List.map PV.str l8) true, .var [ai (IntKind.wrap .i64 (xat2 + r27)), .vec 0 l7.length, ai xend3, ab xname4, .vec 1 l8.length, ai xe5, ai xoff6], .var [ai 0, .nils, ai 0, ab false, .nils, ai 0, ai 0]] ?_ ?_
      · simp -implicitDefEqProofs only [RUNS, qindex, Nat.reduceAdd, Nat.reduceLeDiff, Nat.reduceSub, reduceIte, Nat.reduceEqDiff, Nat.reduceLT, reduceCtorEq, Nat.reduceMul, Nat.reduceBEq, Int.reduceEq, if_true, if_false, eq_self, ne_eq, env_bT, T_3, T_42, Token.pv_eq, Part.pv_eq, eqT_3]
      refine AW.seq ?_
      refine AW.reg hS [(3, .ref 2 0), (4, .ref 3 0)] [.row 32 4 (List.map Token.pv l7) true, .row 9 1 (List.map PV.str l8) true, .var [ai (IntKind.wrap .i64 (xat2 + r27)), .vec 0 l7.length, ai (-1), ab xname4, .vec 1 l8.length, ai xe5, ai xoff6], .var [ai 0, .nils, ai 0, ab false, .nils, ai 0, ai 0]] ?_ ?_
      · simp -implicitDefEqProofs only [RUNS, qindex, Nat.reduceAdd, Nat.reduceLeDiff, Nat.reduceSub, reduceIte, Nat.reduceEqDiff, Nat.reduceLT, reduceCtorEq, Nat.reduceMul, Nat.reduceBEq, Int.reduceEq, if_true, if_false, eq_self, ne_eq, env_bT, T_3, T_42, Token.pv_eq, Part.pv_eq]
      refine AW.seq ?_
      refine AW.reg hS [(4, .ref 3 0)] [.row 32 4 (List.map Token.pv l7) true, .row 9 1 (List.map PV.str l8) true, .var [ai (IntKind.wrap .i64 (xat2 + r27)), .vec 0 l7.length, ai (-1), ab xname4, .vec 1 l8.length, ai xe5, ai xoff6], .var [ai (IntKind.wrap .i64 (xat2 + r27)), .vec 0 l7.length, ai (-1), ab xname4, .vec 1 l8.length, ai xe5, ai xoff6]] ?_ ?_
      · simp -implicitDefEqProofs only [RUNS, qindex, Nat.reduceAdd, Nat.reduceLeDiff, Nat.reduceSub, reduceIte, Nat.reduceEqDiff, Nat.reduceLT, reduceCtorEq, Nat.reduceMul, Nat.reduceBEq, Int.reduceEq, if_true, if_false, eq_self, ne_eq, env_bT, T_42, Token.pv_eq, Part.pv_eq]
      refine AW.ret ?_
      cases h
      show finish _ _ _ _ _ = _
      first | rfl | (simp [finish, resOf, renArgs, toPV, selObjs, sl])
    · replace h := bif_f hb30 h
      refine AW.skip ?_
      refine AW.seq ?_
      refine AW.seq ?_
      replace h := Option.bind_eq_some_iff.1 h; obtain ⟨c31, q32, h⟩ := h
      have f33 := sidx_f q32
      refine AW.reg hS [(0, as_ s1), (3, .ref 2 0), (4, .ref 3 0), (31, ab (decide (c31 = 35)))] [.row 32 4 (List.map Token.pv l7) true, .row 9 1 (List.map PV.str l8) true, .var [ai xat2, .vec 0 l7.length, ai xend3, ab xname4, .vec 1 l8.length, ai xe5, ai xoff6], .var [ai 0, .nils, ai 0, ab false, .nils, ai 0, ai 0]] ?_ ?_
      · simp -implicitDefEqProofs only [RUNS, qindex, Nat.reduceAdd, Nat.reduceLeDiff, Nat.reduceSub, reduceIte, Nat.reduceEqDiff, Nat.reduceLT, reduceCtorEq, Nat.reduceMul, Nat.reduceBEq, Int.reduceEq, if_true, if_false, eq_self, ne_eq, env_bT, T_3, T_5, T_9, T_42, Token.pv_eq, Part.pv_eq, f33.1, f33.2.1, f33.2.2, eqT_5]
      refine AW.cond (b := decide (c31 = 35)) rfl (fun hb34 => ?_) (fun hb34 => ?_)
      · replace h := bif_t hb34 h
        refine AW.seq ?_
        refine AW.block ?_
        refine AW.weak (Weak.slots (L := [(0, as_ s1), (3, .ref 2 0), (4, .ref 3 0)]) ⟨rfl, rfl, rfl, trivial⟩) ?_
        refine AW.loopI (α := Nat × Int) (fun (_, x35) => ⟨sl [(0, as_ s1), (3, .ref 2 0), (4, .ref 3 0)], 171, [.row 32 4 (List.map Token.pv l7) true, .row 9 1 (List.map PV.str l8) true, .var [ai x35, .vec 0 l7.length, ai xend3, ab xname4, .vec 1 l8.length, ai xe5, ai xoff6], .var [ai 0, .nils, ai 0, ab false, .nils, ai 0, ai 0]]⟩) (fun x => iter (F18_b1 s1 xname4 xe5 xoff6 l7 l8) x.1 x.2 = some (tag9, at10, end11, name12, e13, off14, o15, o16)) (fun x => x.1) (BIG, xat2) h ?_
        clear h
        intro ⟨n43, x35⟩ h
        replace h := iter_some h; obtain ⟨m38, rfl, h⟩ := h
        rw [F18_b1] at h
        try dsimp only at h
        show AW _ _ _ _ ⟨sl [(0, as_ s1), (3, .ref 2 0), (4, .ref 3 0)], 171, [.row 32 4 (List.map Token.pv l7) true, .row 9 1 (List.map PV.str l8) true, .var [ai x35, .vec 0 l7.length, ai xend3, ab xname4, .vec 1 l8.length, ai xe5, ai xoff6], .var [ai 0, .nils, ai 0, ab false, .nils, ai 0, ai 0]]⟩
        refine AW.seq ?_
        refine AW.seq ?_
        replace h := Option.bind_eq_some_iff.1 h; obtain ⟨c39, q40, h⟩ := h
        have f41 := sidx_g (guardO_t q40)
        refine AW.reg hS [(0, as_ s1), (3, .ref 2 0), (4, .ref 3 0), (43, ab (decide (x35 < (s1.length : Int)) && !decide (c39 = 10)))] [.row 32 4 (List.map Token.pv l7) true, .row 9 1 (List.map PV.str l8) true, .var [ai x35, .vec 0 l7.length, ai xend3, ab xname4, .vec 1 l8.length, ai xe5, ai xoff6], .var [ai 0, .nils, ai 0, ab false, .nils, ai 0, ai 0]] ?_ ?_
        · clear h
          (simp -implicitDefEqProofs only [RUNS, qindex, Nat.reduceAdd, Nat.reduceLeDiff, Nat.reduceSub, reduceIte, Nat.reduceEqDiff, Nat.reduceLT, reduceCtorEq, Nat.reduceMul, Nat.reduceBEq, Int.reduceEq, if_true, if_false, eq_self, ne_eq, env_bT, T_3, T_5, T_9, T_42, Token.pv_eq, Part.pv_eq, eqT_3, f41.1, f41.2.1, f41.2.2, eqT_5]); repeat' (split <;> rename_i hb <;> (try simp only [HBS, ge_iff_le, gt_iff_lt] at hb) <;> simp -implicitDefEqProofs only [RUNS, qindex, Nat.reduceAdd, Nat.reduceLeDiff, Nat.reduceSub, reduceIte, Nat.reduceEqDiff, Nat.reduceLT, reduceCtorEq, Nat.reduceMul, Nat.reduceBEq, Int.reduceEq, if_true, if_false, eq_self, ne_eq, env_bT, T_3, T_5, T_9, T_42, Token.pv_eq, Part.pv_eq, eqT_3, f41.1, f41.2.1, f41.2.2, eqT_5, *, decide_true, decide_false, Decidable.not_not, not_false_eq_true, not_true_eq_false])
          all_goals (first | (simp only [BOOLS]; done) | (simp [*]; done) | ((try simp only [CLOS, beq_iff_eq, bne_iff_ne, ne_eq] at *) <;> omega) | (simp_all; done) | (simp_all <;> omega))
        refine AW.cond (b := (decide (x35 < (s1.length : Int)) && !decide (c39 = 10))) rfl (fun hb42 => ?_) (fun hb42 => ?_)
        · replace h := bif_t hb42 h
          refine AW.skip ?_
          refine AW.block ?_
          refine AW.reg hS [(0, as_ s1), (3, .ref 2 0), (4, .ref 3 0)] [.row 32 4 (List.map Token.pv l7) true, .row 9 1 (List.map PV.str l8) true, .var [ai (IntKind.wrap .i64 (x35 + 1)), .vec 0 l7.length, ai xend3, ab xname4, .vec 1 l8.length, ai xe5, ai xoff6], .var [ai 0, .nils, ai 0, ab false, .nils, ai 0, ai 0]] ?_ ?_
          · simp -implicitDefEqProofs only [RUNS, qindex, Nat.reduceAdd, Nat.reduceLeDiff, Nat.reduceSub, reduceIte, Nat.reduceEqDiff, Nat.reduceLT, reduceCtorEq, Nat.reduceMul, Nat.reduceBEq, Int.reduceEq, if_true, if_false, eq_self, ne_eq, env_bT, T_3, T_42, Token.pv_eq, Part.pv_eq, eqT_3]
          exact ⟨(m38, IntKind.wrap .i64 (x35 + 1)), h, (Weak.norm (m := 4) (Nat.le_of_ble_eq_true rfl) ⟨rfl, rfl, rfl, trivial⟩ rfl rfl rfl), Nat.lt_succ_self _⟩
        · replace h := bif_f hb42 h
          refine AW.exit ?_
          refine AW.seq ?_
          refine AW.reg hS [(3, .ref 2 0), (4, .ref 3 0)] [.row 32 4 (List.map Token.pv l7) true, .row 9 1 (List.map PV.str l8) true, .var [ai x35, .vec 0 l7.length, ai (-1), ab xname4, .vec 1 l8.length, ai xe5, ai xoff6], .var [ai 0, .nils, ai 0, ab false, .nils, ai 0, ai 0]] ?_ ?_
          · simp -implicitDefEqProofs only [RUNS, qindex, Nat.reduceAdd, Nat.reduceLeDiff, Nat.reduceSub, reduceIte, Nat.reduceEqDiff, Nat.reduceLT, reduceCtorEq, Nat.reduceMul, Nat.reduceBEq, Int.reduceEq, if_true, if_false, eq_self, ne_eq, env_bT, T_3, T_42, Token.pv_eq, Part.pv_eq]
          refine AW.seq ?_
          refine AW.reg hS [(4, .ref 3 0)] [.row 32 4 (List.map Token.pv l7) true, .row 9 1 (List.map PV.str l8) true, .var [ai x35, .vec 0 l7.length, ai (-1), ab xname4, .vec 1 l8.length, ai xe5, ai xoff6], .var [ai x35, .vec 0 l7.length, ai (-1), ab xname4, .vec 1 l8.length, ai xe5, ai xoff6]] ?_ ?_
          · simp -implicitDefEqProofs only [RUNS, qindex, Nat.reduceAdd, Nat.reduceLeDiff, Nat.reduceSub, reduceIte, Nat.reduceEqDiff, Nat.reduceLT, reduceCtorEq, Nat.reduceMul, Nat.reduceBEq, Int.reduceEq, if_true, if_false, eq_self, ne_eq, env_bT, T_42, Token.pv_eq, Part.pv_eq]
          refine AW.ret ?_
          cases h
          show finish _ _ _ _ _ = _
          first | rfl | (simp [finish, resOf, renArgs, toPV, selObjs, sl])
      · replace h := bif_f hb34 h
        refine AW.skip ?_
        refine AW.seq ?_
        refine AW.seq ?_
        refine AW.reg hS [(0, as_ s1), (3, .ref 2 0), (4, .ref 3 0), (54, ab (decide (c31 = 10)))] [.row 32 4 (List.map Token.pv l7) true, .row 9 1 (List.map PV.str l8) true, .var [ai xat2, .vec 0 l7.length, ai xend3, ab xname4, .vec 1 l8.length, ai xe5, ai xoff6], .var [ai 0, .nils, ai 0, ab false, .nils, ai 0, ai 0]] ?_ ?_
        · simp -implicitDefEqProofs only [RUNS, qindex, Nat.reduceAdd, Nat.reduceLeDiff, Nat.reduceSub, reduceIte, Nat.reduceEqDiff, Nat.reduceLT, reduceCtorEq, Nat.reduceMul, Nat.reduceBEq, Int.reduceEq, if_true, if_false, eq_self, ne_eq, env_bT, T_3, T_5, T_9, T_42, Token.pv_eq, Part.pv_eq, f33.1, f33.2.1, f33.2.2, eqT_5]
        refine AW.cond (b := decide (c31 = 10)) rfl (fun hb44 => ?_) (fun hb44 => ?_)
        · replace h := bif_t hb44 h
          refine AW.seq ?_
          replace h := Option.bind_eq_some_iff.1 h; obtain ⟨⟨at45, end46, name47, e48, off49, o50⟩, q51, h⟩ := h
          dsimp only at h
          have f52 := c_F35 xat2 xend3 xname4 xe5 xoff6 (Token.mk 3 xat2 [10] []) l7 l8 at45 end46 name47 e48 off49 o50 q51
          try dsimp only at f52
          have e53 : ecall O [.row 32 4 (List.map Token.pv l7) true, .row 9 1 (List.map PV.str l8) true, .var [ai xat2, .vec 0 l7.length, ai xend3, ab xname4, .vec 1 l8.length, ai xe5, ai xoff6], .var [ai 0, .nils, ai 0, ab false, .nils, ai 0, ai 0]] 35 [.agg [ai xat2, .vec 0 l7.length, ai xend3, ab xname4, .vec 1 l8.length, ai xe5, ai xoff6], .pv (.agg [.int .i64 3, .int .i64 xat2, .str [10], .str []])] = some (retAV [.agg [ai at45, .vec 0 o50.length, ai end46, ab name47, .vec 1 l8.length, ai e48, ai off49]], [.row 32 4 (List.map Token.pv o50) true, .row 9 1 (List.map PV.str l8) true, .var [ai xat2, .vec 0 l7.length, ai xend3, ab xname4, .vec 1 l8.length, ai xe5, ai xoff6], .var [ai 0, .nils, ai 0, ab false, .nils, ai 0, ai 0]]) := ecall_eq rfl rfl rfl f52 rfl rfl rfl
          refine AW.reg hS [(0, as_ s1), (3, .ref 2 0), (4, .ref 3 0)] [.row 32 4 (List.map Token.pv o50) true, .row 9 1 (List.map PV.str l8) true, .var [ai at45, .vec 0 o50.length, ai end46, ab name47, .vec 1 l8.length, ai e48, ai off49], .var [ai 0, .nils, ai 0, ab false, .nils, ai 0, ai 0]] ?_ ?_
          · simp -implicitDefEqProofs only [RUNS, qindex, Nat.reduceAdd, Nat.reduceLeDiff, Nat.reduceSub, reduceIte, Nat.reduceEqDiff, Nat.reduceLT, reduceCtorEq, Nat.reduceMul, Nat.reduceBEq, Int.reduceEq, if_true, if_false, eq_self, ne_eq, env_bT, T_3, T_32, T_42, Token.pv_eq, Part.pv_eq, ownT_32, pf_35, e53]
          refine AW.seq ?_
          refine AW.reg hS [(0, as_ s1), (3, .ref 2 0), (4, .ref 3 0)] [.row 32 4 (List.map Token.pv o50) true, .row 9 1 (List.map PV.str l8) true, .var [ai (IntKind.wrap .i64 (at45 + 1)), .vec 0 o50.length, ai end46, ab name47, .vec 1 l8.length, ai e48, ai off49], .var [ai 0, .nils, ai 0, ab false, .nils, ai 0, ai 0]] ?_ ?_
          · simp -implicitDefEqProofs only [RUNS, qindex, Nat.reduceAdd, Nat.reduceLeDiff, Nat.reduceSub, reduceIte, Nat.reduceEqDiff, Nat.reduceLT, reduceCtorEq, Nat.reduceMul, Nat.reduceBEq, Int.reduceEq, if_true, if_false, eq_self, ne_eq, env_bT, T_3, T_42, Token.pv_eq, Part.pv_eq, eqT_3]
          refine AW.seq ?_
          refine AW.reg hS [(0, as_ s1), (3, .ref 2 0), (4, .ref 3 0)] [.row 32 4 (List.map Token.pv o50) true, .row 9 1 (List.map PV.str l8) true, .var [ai (IntKind.wrap .i64 (at45 + 1)), .vec 0 o50.length, ai (-1), ab name47, .vec 1 l8.length, ai e48, ai off49], .var [ai 0, .nils, ai 0, ab false, .nils, ai 0, ai 0]] ?_ ?_
          · simp -implicitDefEqProofs only [RUNS, qindex, Nat.reduceAdd, Nat.reduceLeDiff, Nat.reduceSub, reduceIte, Nat.reduceEqDiff, Nat.reduceLT, reduceCtorEq, Nat.reduceMul, Nat.reduceBEq, Int.reduceEq, if_true, if_false, eq_self, ne_eq, env_bT, T_3, T_42, Token.pv_eq, Part.pv_eq]
          refine AW.seq ?_
          replace h := Option.bind_eq_some_iff.1 h; obtain ⟨⟨at54, end55, name56, e57, off58⟩, q59, h⟩ := h
          dsimp only at h
          have f60 := c_F36 s1 (IntKind.wrap .i64 (at45 + 1)) (-1) name47 e48 off49 o50 l8 at54 end55 name56 e57 off58 q59
          try dsimp only at f60
          have e61 : ecall O [.row 32 4 (List.map Token.pv o50) true, .row 9 1 (List.map PV.str l8) true, .var [ai (IntKind.wrap .i64 (at45 + 1)), .vec 0 o50.length, ai (-1), ab name47, .vec 1 l8.length, ai e48, ai off49], .var [ai 0, .nils, ai 0, ab false, .nils, ai 0, ai 0]] 36 [as_ s1, .agg [ai (IntKind.wrap .i64 (at45 + 1)), .vec 0 o50.length, ai (-1), ab name47, .vec 1 l8.length, ai e48, ai off49]] = some (retAV [.agg [ai at54, .vec 0 o50.length, ai end55, ab name56, .nils, ai e57, ai off58]], [.row 32 4 (List.map Token.pv o50) true, .row 9 1 (List.map PV.str l8) true, .var [ai (IntKind.wrap .i64 (at45 + 1)), .vec 0 o50.length, ai (-1), ab name47, .vec 1 l8.length, ai e48, ai off49], .var [ai 0, .nils, ai 0, ab false, .nils, ai 0, ai 0]]) := ecall_eq rfl rfl rfl f60 rfl rfl rfl
          refine AW.reg hS [(4, .ref 3 0)] [.row 32 4 (List.map Token.pv o50) true, .row 9 1 (List.map PV.str l8) true, .var [ai (IntKind.wrap .i64 (at45 + 1)), .vec 0 o50.length, ai (-1), ab name47, .vec 1 l8.length, ai e48, ai off49], .var [ai at54, .vec 0 o50.length, ai end55, ab name56, .nils, ai e57, ai off58]] ?_ ?_
          · simp -implicitDefEqProofs only [RUNS, qindex, Nat.reduceAdd, Nat.reduceLeDiff, Nat.reduceSub, reduceIte, Nat.reduceEqDiff, Nat.reduceLT, reduceCtorEq, Nat.reduceMul, Nat.reduceBEq, Int.reduceEq, if_true, if_false, eq_self, ne_eq, env_bT, T_9, T_42, Token.pv_eq, Part.pv_eq, pf_36, e61]
          refine AW.ret ?_
          cases h
          show finish _ _ _ _ _ = _
          first | rfl | (simp [finish, resOf, renArgs, toPV, selObjs, sl])
        · replace h := bif_f hb44 h
          refine AW.skip ?_
          refine AW.seq ?_
          refine AW.seq ?_
          replace h := Option.bind_eq_some_iff.1 h; obtain ⟨t62, q63, h⟩ := h
          have f64 := sslice_g (guardO_t q63)
          have f64e := f64.2.2.2.2
          try simp only [Int.toNat_natCast, Int.toNat_zero, List.drop_zero] at f64e
          have f64l := f64.2.2.1
          try simp only [Int.toNat_natCast, Int.toNat_zero] at f64l
          refine AW.reg hS [(0, as_ s1), (3, .ref 2 0), (4, .ref 3 0), (83, ab (decide (IntKind.wrap .i64 (xat2 + 2) ≤ (s1.length : Int)) && decide (t62 = [60, 60])))] [.row 32 4 (List.map Token.pv l7) true, .row 9 1 (List.map PV.str l8) true, .var [ai xat2, .vec 0 l7.length, ai xend3, ab xname4, .vec 1 l8.length, ai xe5, ai xoff6], .var [ai 0, .nils, ai 0, ab false, .nils, ai 0, ai 0]] ?_ ?_
          · clear h
            (simp -implicitDefEqProofs only [RUNS, qindex, Nat.reduceAdd, Nat.reduceLeDiff, Nat.reduceSub, reduceIte, Nat.reduceEqDiff, Nat.reduceLT, reduceCtorEq, Nat.reduceMul, Nat.reduceBEq, Int.reduceEq, if_true, if_false, eq_self, ne_eq, env_bT, T_3, T_9, T_42, Token.pv_eq, Part.pv_eq, eqT_3, f64.1, f64.2.1, f64l, f64.2.2.2.1, f64e, Int.toNat_natCast, Int.toNat_zero, eqT_9]); repeat' (split <;> rename_i hb <;> (try simp only [HBS, ge_iff_le, gt_iff_lt] at hb) <;> simp -implicitDefEqProofs only [RUNS, qindex, Nat.reduceAdd, Nat.reduceLeDiff, Nat.reduceSub, reduceIte, Nat.reduceEqDiff, Nat.reduceLT, reduceCtorEq, Nat.reduceMul, Nat.reduceBEq, Int.reduceEq, if_true, if_false, eq_self, ne_eq, env_bT, T_3, T_9, T_42, Token.pv_eq, Part.pv_eq, eqT_3, f64.1, f64.2.1, f64l, f64.2.2.2.1, f64e, Int.toNat_natCast, Int.toNat_zero, eqT_9, *, decide_true, decide_false, Decidable.not_not, not_false_eq_true, not_true_eq_false])
            all_goals (first | (simp only [BOOLS]; done) | (simp [*]; done) | ((try simp only [CLOS, beq_iff_eq, bne_iff_ne, ne_eq] at *) <;> omega) | (simp_all; done) | (simp_all <;> omega))
          refine AW.cond (b := (decide (IntKind.wrap .i64 (xat2 + 2) ≤ (s1.length : Int)) && decide (t62 = [60, 60]))) rfl (fun hb65 => ?_) (fun hb65 => ?_)
          · replace h := bif_t hb65 h
            refine AW.seq ?_
            replace h := Option.bind_eq_some_iff.1 h; obtain ⟨⟨at66, end67, name68, e69, off70, o71, o72⟩, q73, h⟩ := h
            dsimp only at h
            have f74 := c_F37 s1 xat2 xend3 xname4 xe5 xoff6 l7 l8 at66 end67 name68 e69 off70 o71 o72 q73
            try dsimp only at f74
            have e75 : ecall O [.row 32 4 (List.map Token.pv l7) true, .row 9 1 (List.map PV.str l8) true, .var [ai xat2, .vec 0 l7.length, ai xend3, ab xname4, .vec 1 l8.length, ai xe5, ai xoff6], .var [ai 0, .nils, ai 0, ab false, .nils, ai 0, ai 0]] 37 [as_ s1, .agg [ai xat2, .vec 0 l7.length, ai xend3, ab xname4, .vec 1 l8.length, ai xe5, ai xoff6]] = some (retAV [.agg [ai at66, .vec 0 o71.length, ai end67, ab name68, .vec 1 o72.length, ai e69, ai off70]], [.row 32 4 (List.map Token.pv o71) true, .row 9 1 (List.map PV.str o72) true, .var [ai xat2, .vec 0 l7.length, ai xend3, ab xname4, .vec 1 l8.length, ai xe5, ai xoff6], .var [ai 0, .nils, ai 0, ab false, .nils, ai 0, ai 0]]) := ecall_eq rfl rfl rfl f74 rfl rfl rfl
            refine AW.reg hS [(4, .ref 3 0)] [.row 32 4 (List.map Token.pv o71) true, .row 9 1 (List.map PV.str o72) true, .var [ai xat2, .vec 0 l7.length, ai xend3, ab xname4, .vec 1 l8.length, ai xe5, ai xoff6], .var [ai at66, .vec 0 o71.length, ai end67, ab name68, .vec 1 o72.length, ai e69, ai off70]] ?_ ?_
            · simp -implicitDefEqProofs only [RUNS, qindex, Nat.reduceAdd, Nat.reduceLeDiff, Nat.reduceSub, reduceIte, Nat.reduceEqDiff, Nat.reduceLT, reduceCtorEq, Nat.reduceMul, Nat.reduceBEq, Int.reduceEq, if_true, if_false, eq_self, ne_eq, env_bT, T_9, T_42, Token.pv_eq, Part.pv_eq, pf_37, e75]
            refine AW.ret ?_
            cases h
            show finish _ _ _ _ _ = _
            first | rfl | (simp [finish, resOf, renArgs, toPV, selObjs, sl])
          · replace h := bif_f hb65 h
            refine AW.skip ?_
            refine AW.seq ?_
            replace h := Option.bind_eq_some_iff.1 h; obtain ⟨r76, q77, h⟩ := h
            have f78 := c_F38 s1 xat2 r76 q77
            try dsimp only at f78
            refine AW.reg hS [(0, as_ s1), (3, .ref 2 0), (4, .ref 3 0), (6, ai r76)] [.row 32 4 (List.map Token.pv l7) true, .row 9 1 (List.map PV.str l8) true, .var [ai xat2, .vec 0 l7.length, ai xend3, ab xname4, .vec 1 l8.length, ai xe5, ai xoff6], .var [ai 0, .nils, ai 0, ab false, .nils, ai 0, ai 0]] ?_ ?_
            · simp -implicitDefEqProofs only [RUNS, qindex, Nat.reduceAdd, Nat.reduceLeDiff, Nat.reduceSub, reduceIte, Nat.reduceEqDiff, Nat.reduceLT, reduceCtorEq, Nat.reduceMul, Nat.reduceBEq, Int.reduceEq, if_true, if_false, eq_self, ne_eq, env_bT, T_3, T_9, T_42, Token.pv_eq, Part.pv_eq, pf_38, f78]
            refine AW.seq ?_
            refine AW.seq ?_
            refine AW.reg hS [(0, as_ s1), (3, .ref 2 0), (4, .ref 3 0), (6, ai r76), (92, ab (decide (r76 < 0)))] [.row 32 4 (List.map Token.pv l7) true, .row 9 1 (List.map PV.str l8) true, .var [ai xat2, .vec 0 l7.length, ai xend3, ab xname4, .vec 1 l8.length, ai xe5, ai xoff6], .var [ai 0, .nils, ai 0, ab false, .nils, ai 0, ai 0]] ?_ ?_
            · simp -implicitDefEqProofs only [RUNS, qindex, Nat.reduceAdd, Nat.reduceLeDiff, Nat.reduceSub, reduceIte, Nat.reduceEqDiff, Nat.reduceLT, reduceCtorEq, Nat.reduceMul, Nat.reduceBEq, Int.reduceEq, if_true, if_false, eq_self, ne_eq, env_bT, T_3, Token.pv_eq, Part.pv_eq, eqT_3]
            refine AW.cond (b := decide (r76 < 0)) rfl (fun hb79 => ?_) (fun hb79 => ?_)
            · replace h := bif_t hb79 h
              refine AW.seq ?_
              refine AW.reg hS [(0, as_ s1), (3, .ref 2 0), (4, .ref 3 0), (7, ai (IntKind.wrap .i64 (xat2 + 1)))] [.row 32 4 (List.map Token.pv l7) true, .row 9 1 (List.map PV.str l8) true, .var [ai xat2, .vec 0 l7.length, ai xend3, ab xname4, .vec 1 l8.length, ai xe5, ai xoff6], .var [ai 0, .nils, ai 0, ab false, .nils, ai 0, ai 0]] ?_ ?_
              · simp -implicitDefEqProofs only [RUNS, qindex, Nat.reduceAdd, Nat.reduceLeDiff, Nat.reduceSub, reduceIte, Nat.reduceEqDiff, Nat.reduceLT, reduceCtorEq, Nat.reduceMul, Nat.reduceBEq, Int.reduceEq, if_true, if_false, eq_self, ne_eq, env_bT, T_3, T_42, Token.pv_eq, Part.pv_eq, eqT_3]
              refine AW.seq ?_
              refine AW.block ?_
              refine AW.weak (Weak.slots (L := [(0, as_ s1), (3, .ref 2 0), (4, .ref 3 0), (7, ai (IntKind.wrap .i64 (xat2 + 1)))]) ⟨rfl, rfl, rfl, rfl, trivial⟩) ?_
              refine AW.loopI (α := Nat × Int) (fun (_, open80) => ⟨sl [(0, as_ s1), (3, .ref 2 0), (4, .ref 3 0), (7, ai open80)], 171, [.row 32 4 (List.map Token.pv l7) true, .row 9 1 (List.map PV.str l8) true, .var [ai xat2, .vec 0 l7.length, ai xend3, ab xname4, .vec 1 l8.length, ai xe5, ai xoff6], .var [ai 0, .nils, ai 0, ab false, .nils, ai 0, ai 0]]⟩) (fun x => iter (F18_b2 s1 xat2 xend3 xname4 xe5 xoff6 l7 l8) x.1 x.2 = some (tag9, at10, end11, name12, e13, off14, o15, o16)) (fun x => x.1) (BIG, IntKind.wrap .i64 (xat2 + 1)) h ?_
              clear h
              intro ⟨n96, open80⟩ h
              replace h := iter_some h; obtain ⟨m83, rfl, h⟩ := h
              rw [F18_b2] at h
              try dsimp only at h
              show AW _ _ _ _ ⟨sl [(0, as_ s1), (3, .ref 2 0), (4, .ref 3 0), (7, ai open80)], 171, [.row 32 4 (List.map Token.pv l7) true, .row 9 1 (List.map PV.str l8) true, .var [ai xat2, .vec 0 l7.length, ai xend3, ab xname4, .vec 1 l8.length, ai xe5, ai xoff6], .var [ai 0, .nils, ai 0, ab false, .nils, ai 0, ai 0]]⟩
              refine AW.seq ?_
              refine AW.seq ?_
              replace h := Option.bind_eq_some_iff.1 h; obtain ⟨c84, q85, h⟩ := h
              have f86 := sidx_f q85
              refine AW.reg hS [(0, as_ s1), (3, .ref 2 0), (4, .ref 3 0), (7, ai open80), (99, ab (!decide (c84 = 91)))] [.row 32 4 (List.map Token.pv l7) true, .row 9 1 (List.map PV.str l8) true, .var [ai xat2, .vec 0 l7.length, ai xend3, ab xname4, .vec 1 l8.length, ai xe5, ai xoff6], .var [ai 0, .nils, ai 0, ab false, .nils, ai 0, ai 0]] ?_ ?_
              · simp -implicitDefEqProofs only [RUNS, qindex, Nat.reduceAdd, Nat.reduceLeDiff, Nat.reduceSub, reduceIte, Nat.reduceEqDiff, Nat.reduceLT, reduceCtorEq, Nat.reduceMul, Nat.reduceBEq, Int.reduceEq, if_true, if_false, eq_self, ne_eq, env_bT, T_5, T_9, Token.pv_eq, Part.pv_eq, f86.1, f86.2.1, f86.2.2, eqT_5]
              refine AW.cond (b := !decide (c84 = 91)) rfl (fun hb87 => ?_) (fun hb87 => ?_)
              · replace h := bif_t hb87 h
                refine AW.skip ?_
                refine AW.block ?_
                refine AW.reg hS [(0, as_ s1), (3, .ref 2 0), (4, .ref 3 0), (7, ai (IntKind.wrap .i64 (open80 + 1)))] [.row 32 4 (List.map Token.pv l7) true, .row 9 1 (List.map PV.str l8) true, .var [ai xat2, .vec 0 l7.length, ai xend3, ab xname4, .vec 1 l8.length, ai xe5, ai xoff6], .var [ai 0, .nils, ai 0, ab false, .nils, ai 0, ai 0]] ?_ ?_
                · simp -implicitDefEqProofs only [RUNS, qindex, Nat.reduceAdd, Nat.reduceLeDiff, Nat.reduceSub, reduceIte, Nat.reduceEqDiff, Nat.reduceLT, reduceCtorEq, Nat.reduceMul, Nat.reduceBEq, Int.reduceEq, if_true, if_false, eq_self, ne_eq, env_bT, T_3, Token.pv_eq, Part.pv_eq, eqT_3]
                exact ⟨(m83, IntKind.wrap .i64 (open80 + 1)), h, (Weak.norm (m := 4) (Nat.le_of_ble_eq_true rfl) ⟨rfl, rfl, rfl, rfl, trivial⟩ rfl rfl rfl), Nat.lt_succ_self _⟩
              · replace h := bif_f hb87 h
                refine AW.exit ?_
                refine AW.seq ?_
                replace h := Option.bind_eq_some_iff.1 h; obtain ⟨⟨at88, end89, name90, e91, off92⟩, q93, h⟩ := h
                dsimp only at h
                have f94 := c_F19 xat2 xend3 xname4 xe5 xoff6 47 open80 l7 l8 at88 end89 name90 e91 off92 q93
                try dsimp only at f94
                have e95 : ecall O [.row 32 4 (List.map Token.pv l7) true, .row 9 1 (List.map PV.str l8) true, .var [ai xat2, .vec 0 l7.length, ai xend3, ab xname4, .vec 1 l8.length, ai xe5, ai xoff6], .var [ai 0, .nils, ai 0, ab false, .nils, ai 0, ai 0]] 19 [.agg [ai xat2, .vec 0 l7.length, ai xend3, ab xname4, .vec 1 l8.length, ai xe5, ai xoff6], ai 47, ai open80] = some (retAV [.agg [ai at88, .vec 0 l7.length, ai end89, ab name90, .vec 1 l8.length, ai e91, ai off92]], [.row 32 4 (List.map Token.pv l7) true, .row 9 1 (List.map PV.str l8) true, .var [ai xat2, .vec 0 l7.length, ai xend3, ab xname4, .vec 1 l8.length, ai xe5, ai xoff6], .var [ai 0, .nils, ai 0, ab false, .nils, ai 0, ai 0]]) := ecall_eq rfl rfl rfl f94 rfl rfl rfl
                refine AW.reg hS [(4, .ref 3 0)] [.row 32 4 (List.map Token.pv l7) true, .row 9 1 (List.map PV.str l8) true, .var [ai xat2, .vec 0 l7.length, ai xend3, ab xname4, .vec 1 l8.length, ai xe5, ai xoff6], .var [ai at88, .vec 0 l7.length, ai end89, ab name90, .vec 1 l8.length, ai e91, ai off92]] ?_ ?_
                · simp -implicitDefEqProofs only [RUNS, qindex, Nat.reduceAdd, Nat.reduceLeDiff, Nat.reduceSub, reduceIte, Nat.reduceEqDiff, Nat.reduceLT, reduceCtorEq, Nat.reduceMul, Nat.reduceBEq, Int.reduceEq, if_true, if_false, eq_self, ne_eq, env_bT, T_3, T_24, T_42, Token.pv_eq, Part.pv_eq, pf_19, e95]
                refine AW.ret ?_
                cases h
                show finish _ _ _ _ _ = _
                first | rfl | (simp [finish, resOf, renArgs, toPV, selObjs, sl])
            · replace h := bif_f hb79 h
              refine AW.skip ?_
              refine AW.seq ?_
              refine AW.seq ?_
              refine AW.reg hS [(0, as_ s1), (3, .ref 2 0), (4, .ref 3 0), (6, ai r76), (108, ab (decide (xat2 < r76)))] [.row 32 4 (List.map Token.pv l7) true, .row 9 1 (List.map PV.str l8) true, .var [ai xat2, .vec 0 l7.length, ai xend3, ab xname4, .vec 1 l8.length, ai xe5, ai xoff6], .var [ai 0, .nils, ai 0, ab false, .nils, ai 0, ai 0]] ?_ ?_
              · simp -implicitDefEqProofs only [RUNS, qindex, Nat.reduceAdd, Nat.reduceLeDiff, Nat.reduceSub, reduceIte, Nat.reduceEqDiff, Nat.reduceLT, reduceCtorEq, Nat.reduceMul, Nat.reduceBEq, Int.reduceEq, if_true, if_false, eq_self, ne_eq, env_bT, T_3, T_42, Token.pv_eq, Part.pv_eq, eqT_3]
              refine AW.cond (b := decide (xat2 < r76)) rfl (fun hb97 => ?_) (fun hb97 => ?_)
              · replace h := bif_t hb97 h
                refine AW.seqJ (α := (List Token) × Int × Int × Bool × Int × Int) (fun (l98, x99, x100, x101, x102, x103) => ⟨sl [(0, as_ s1), (3, .ref 2 0), (4, .ref 3 0), (6, ai r76)], 171, [.row 32 4 (List.map Token.pv l98) true, .row 9 1 (List.map PV.str l8) true, .var [ai x99, .vec 0 l98.length, ai x100, ab x101, .vec 1 l8.length, ai x102, ai x103], .var [ai 0, .nils, ai 0, ab false, .nils, ai 0, ai 0]]⟩) (fun x => F18_j3 s1 r76 l8 x = some (tag9, at10, end11, name12, e13, off14, o15, o16)) ?_ ?_
                · intro ⟨l98, x99, x100, x101, x102, x103⟩ h
                  rw [F18_j3] at h
                  try dsimp only at h
                  show AW _ _ _ _ ⟨sl [(0, as_ s1), (3, .ref 2 0), (4, .ref 3 0), (6, ai r76)], 171, [.row 32 4 (List.map Token.pv l98) true, .row 9 1 (List.map PV.str l8) true, .var [ai x99, .vec 0 l98.length, ai x100, ab x101, .vec 1 l8.length, ai x102, ai x103], .var [ai 0, .nils, ai 0, ab false, .nils, ai 0, ai 0]]⟩
                  refine AW.seq ?_
                  replace h := Option.bind_eq_some_iff.1 h; obtain ⟨t104, q105, h⟩ := h
                  have f106 := sslice_f q105
                  have f106e := f106.2.2.2.2
                  try simp only [Int.toNat_natCast, Int.toNat_zero, List.drop_zero] at f106e
                  have f106l := f106.2.2.1
                  try simp only [Int.toNat_natCast, Int.toNat_zero] at f106l
                  replace h := Option.bind_eq_some_iff.1 h; obtain ⟨⟨at107, end108, name109, e110, off111, o112⟩, q113, h⟩ := h
                  dsimp only at h
                  have f114 := c_F35 x99 x100 x101 x102 x103 (Token.mk 2 x99 t104 []) l98 l8 at107 end108 name109 e110 off111 o112 q113
                  try dsimp only at f114
                  have e115 : ecall O [.row 32 4 (List.map Token.pv l98) true, .row 9 1 (List.map PV.str l8) true, .var [ai x99, .vec 0 l98.length, ai x100, ab x101, .vec 1 l8.length, ai x102, ai x103], .var [ai 0, .nils, ai 0, ab false, .nils, ai 0, ai 0]] 35 [.agg [ai x99, .vec 0 l98.length, ai x100, ab x101, .vec 1 l8.length, ai x102, ai x103], .pv (.agg [.int .i64 2, .int .i64 x99, .str t104, .str []])] = some (retAV [.agg [ai at107, .vec 0 o112.length, ai end108, ab name109, .vec 1 l8.length, ai e110, ai off111]], [.row 32 4 (List.map Token.pv o112) true, .row 9 1 (List.map PV.str l8) true, .var [ai x99, .vec 0 l98.length, ai x100, ab x101, .vec 1 l8.length, ai x102, ai x103], .var [ai 0, .nils, ai 0, ab false, .nils, ai 0, ai 0]]) := ecall_eq rfl rfl rfl f114 rfl rfl rfl
                  refine AW.dregB mixed hS [(3, some 2), (124, some 2), (127, some 2)] rfl (hpf ▸ (by kernel_rfl : orderOKB pfn [(3, some 2), (124, some 2), (127, some 2)] _ = true)) [(0, as_ s1), (3, .ref 2 0), (4, .ref 3 0), (6, ai r76)] [.row 32 4 (List.map Token.pv o112) true, .row 9 1 (List.map PV.str l8) true, .var [ai at107, .vec 0 o112.length, ai end108, ab name109, .vec 1 l8.length, ai e110, ai off111], .var [ai 0, .nils, ai 0, ab false, .nils, ai 0, ai 0]] ?_ ?_
                  · simp -implicitDefEqProofs only [RUNS, qindex, Nat.reduceAdd, Nat.reduceLeDiff, Nat.reduceSub, reduceIte, Nat.reduceEqDiff, Nat.reduceLT, reduceCtorEq, Nat.reduceMul, Nat.reduceBEq, Int.reduceEq, if_true, if_false, eq_self, ne_eq, env_bT, T_3, T_9, T_32, T_42, Token.pv_eq, Part.pv_eq, f106.1, f106.2.1, f106l, f106.2.2.2.1, f106e, Int.toNat_natCast, Int.toNat_zero, ownT_32, pf_35, e115]
                  refine AW.seq ?_
                  replace h := Option.bind_eq_some_iff.1 h; obtain ⟨c116, q117, h⟩ := h
                  have f118 := sidx_f q117
                  refine AW.reg hS [(3, .ref 2 0), (4, .ref 3 0), (6, ai r76)] [.row 32 4 (List.map Token.pv o112) true, .row 9 1 (List.map PV.str l8) true, .var [ai at107, .vec 0 o112.length, ai end108, ab (decide (c116 = 36)), .vec 1 l8.length, ai e110, ai off111], .var [ai 0, .nils, ai 0, ab false, .nils, ai 0, ai 0]] ?_ ?_
                  · simp -implicitDefEqProofs only [RUNS, qindex, Nat.reduceAdd, Nat.reduceLeDiff, Nat.reduceSub, reduceIte, Nat.reduceEqDiff, Nat.reduceLT, reduceCtorEq, Nat.reduceMul, Nat.reduceBEq, Int.reduceEq, if_true, if_false, eq_self, ne_eq, env_bT, T_3, T_4, T_5, T_9, T_42, Token.pv_eq, Part.pv_eq, f118.1, f118.2.1, f118.2.2, eqT_5]
                  refine AW.seq ?_
                  refine AW.reg hS [(3, .ref 2 0), (4, .ref 3 0)] [.row 32 4 (List.map Token.pv o112) true, .row 9 1 (List.map PV.str l8) true, .var [ai r76, .vec 0 o112.length, ai end108, ab (decide (c116 = 36)), .vec 1 l8.length, ai e110, ai off111], .var [ai 0, .nils, ai 0, ab false, .nils, ai 0, ai 0]] ?_ ?_
                  · simp -implicitDefEqProofs only [RUNS, qindex, Nat.reduceAdd, Nat.reduceLeDiff, Nat.reduceSub, reduceIte, Nat.reduceEqDiff, Nat.reduceLT, reduceCtorEq, Nat.reduceMul, Nat.reduceBEq, Int.reduceEq, if_true, if_false, eq_self, ne_eq, env_bT, T_3, T_42, Token.pv_eq, Part.pv_eq]
                  refine AW.seq ?_
                  refine AW.reg hS [(3, .ref 2 0), (4, .ref 3 0)] [.row 32 4 (List.map Token.pv o112) true, .row 9 1 (List.map PV.str l8) true, .var [ai r76, .vec 0 o112.length, ai (-1), ab (decide (c116 = 36)), .vec 1 l8.length, ai e110, ai off111], .var [ai 0, .nils, ai 0, ab false, .nils, ai 0, ai 0]] ?_ ?_
                  · simp -implicitDefEqProofs only [RUNS, qindex, Nat.reduceAdd, Nat.reduceLeDiff, Nat.reduceSub, reduceIte, Nat.reduceEqDiff, Nat.reduceLT, reduceCtorEq, Nat.reduceMul, Nat.reduceBEq, Int.reduceEq, if_true, if_false, eq_self, ne_eq, env_bT, T_3, T_42, Token.pv_eq, Part.pv_eq]
                  refine AW.seq ?_
                  refine AW.reg hS [(4, .ref 3 0)] [.row 32 4 (List.map Token.pv o112) true, .row 9 1 (List.map PV.str l8) true, .var [ai r76, .vec 0 o112.length, ai (-1), ab (decide (c116 = 36)), .vec 1 l8.length, ai e110, ai off111], .var [ai r76, .vec 0 o112.length, ai (-1), ab (decide (c116 = 36)), .vec 1 l8.length, ai e110, ai off111]] ?_ ?_
                  · simp -implicitDefEqProofs only [RUNS, qindex, Nat.reduceAdd, Nat.reduceLeDiff, Nat.reduceSub, reduceIte, Nat.reduceEqDiff, Nat.reduceLT, reduceCtorEq, Nat.reduceMul, Nat.reduceBEq, Int.reduceEq, if_true, if_false, eq_self, ne_eq, env_bT, T_42, Token.pv_eq, Part.pv_eq]
                  refine AW.ret ?_
                  cases h
                  show finish _ _ _ _ _ = _
                  first | rfl | (simp [finish, resOf, renArgs, toPV, selObjs, sl])
                refine AW.seq ?_
                refine AW.reg hS [(0, as_ s1), (3, .ref 2 0), (4, .ref 3 0), (6, ai r76), (120, ab (decide (c31 = 36) || decide (c31 = 96)))] [.row 32 4 (List.map Token.pv l7) true, .row 9 1 (List.map PV.str l8) true, .var [ai xat2, .vec 0 l7.length, ai xend3, ab xname4, .vec 1 l8.length, ai xe5, ai xoff6], .var [ai 0, .nils, ai 0, ab false, .nils, ai 0, ai 0]] ?_ ?_
                · clear h
                  (simp -implicitDefEqProofs only [RUNS, qindex, Nat.reduceAdd, Nat.reduceLeDiff, Nat.reduceSub, reduceIte, Nat.reduceEqDiff, Nat.reduceLT, reduceCtorEq, Nat.reduceMul, Nat.reduceBEq, Int.reduceEq, if_true, if_false, eq_self, ne_eq, env_bT, T_3, T_5, T_9, T_42, Token.pv_eq, Part.pv_eq, f33.1, f33.2.1, f33.2.2, eqT_5]); repeat' (split <;> rename_i hb <;> (try simp only [HBS, ge_iff_le, gt_iff_lt] at hb) <;> simp -implicitDefEqProofs only [RUNS, qindex, Nat.reduceAdd, Nat.reduceLeDiff, Nat.reduceSub, reduceIte, Nat.reduceEqDiff, Nat.reduceLT, reduceCtorEq, Nat.reduceMul, Nat.reduceBEq, Int.reduceEq, if_true, if_false, eq_self, ne_eq, env_bT, T_3, T_5, T_9, T_42, Token.pv_eq, Part.pv_eq, f33.1, f33.2.1, f33.2.2, eqT_5, *, decide_true, decide_false, Decidable.not_not, not_false_eq_true, not_true_eq_false])
                  all_goals (first | (simp only [BOOLS]; done) | (simp [*]; done) | ((try simp only [CLOS, beq_iff_eq, bne_iff_ne, ne_eq] at *) <;> omega) | (simp_all; done) | (simp_all <;> omega))
                refine AW.cond (b := (decide (c31 = 36) || decide (c31 = 96))) rfl (fun hb119 => ?_) (fun hb119 => ?_)
                · replace h := bif_t hb119 h
                  replace h := Option.bind_eq_some_iff.1 h; obtain ⟨⟨at120, end121, name122, e123, off124, o125⟩, q126, h⟩ := h
                  dsimp only at h
                  have f127 := c_F39 xat2 xend3 xname4 xe5 xoff6 l7 l8 at120 end121 name122 e123 off124 o125 q126
                  try dsimp only at f127
                  have e128 : ecall O [.row 32 4 (List.map Token.pv l7) true, .row 9 1 (List.map PV.str l8) true, .var [ai xat2, .vec 0 l7.length, ai xend3, ab xname4, .vec 1 l8.length, ai xe5, ai xoff6], .var [ai 0, .nils, ai 0, ab false, .nils, ai 0, ai 0]] 39 [.agg [ai xat2, .vec 0 l7.length, ai xend3, ab xname4, .vec 1 l8.length, ai xe5, ai xoff6]] = some (retAV [.agg [ai at120, .vec 0 o125.length, ai end121, ab name122, .vec 1 l8.length, ai e123, ai off124]], [.row 32 4 (List.map Token.pv o125) true, .row 9 1 (List.map PV.str l8) true, .var [ai xat2, .vec 0 l7.length, ai xend3, ab xname4, .vec 1 l8.length, ai xe5, ai xoff6], .var [ai 0, .nils, ai 0, ab false, .nils, ai 0, ai 0]]) := ecall_eq rfl rfl rfl f127 rfl rfl rfl
                  refine AW.reg hS [(0, as_ s1), (3, .ref 2 0), (4, .ref 3 0), (6, ai r76)] [.row 32 4 (List.map Token.pv o125) true, .row 9 1 (List.map PV.str l8) true, .var [ai at120, .vec 0 o125.length, ai end121, ab name122, .vec 1 l8.length, ai e123, ai off124], .var [ai 0, .nils, ai 0, ab false, .nils, ai 0, ai 0]] ?_ ?_
                  · simp -implicitDefEqProofs only [RUNS, qindex, Nat.reduceAdd, Nat.reduceLeDiff, Nat.reduceSub, reduceIte, Nat.reduceEqDiff, Nat.reduceLT, reduceCtorEq, Nat.reduceMul, Nat.reduceBEq, Int.reduceEq, if_true, if_false, eq_self, ne_eq, env_bT, T_42, Token.pv_eq, Part.pv_eq, pf_39, e128]
                  exact ⟨(o125, at120, end121, name122, e123, off124), h, (Weak.norm (m := 4) (Nat.le_of_ble_eq_true rfl) ⟨rfl, rfl, rfl, rfl, trivial⟩ rfl rfl rfl)⟩
                · replace h := bif_f hb119 h
                  refine AW.skip ?_
                  exact ⟨(l7, xat2, xend3, xname4, xe5, xoff6), h, (Weak.norm (m := 4) (Nat.le_of_ble_eq_true rfl) ⟨rfl, rfl, rfl, rfl, trivial⟩ rfl rfl rfl)⟩
              · replace h := bif_f hb97 h
                refine AW.skip ?_
                refine AW.seq ?_
                replace h := Option.bind_eq_some_iff.1 h; obtain ⟨r129, q130, h⟩ := h
                have f131 := c_F40 s1 xat2 r129 q130
                try dsimp only at f131
                refine AW.reg hS [(3, .ref 2 0), (4, .ref 3 0), (8, .ref 4 0)] [.row 32 4 (List.map Token.pv l7) true, .row 9 1 (List.map PV.str l8) true, .var [ai xat2, .vec 0 l7.length, ai xend3, ab xname4, .vec 1 l8.length, ai xe5, ai xoff6], .var [ai 0, .nils, ai 0, ab false, .nils, ai 0, ai 0], .var [as_ r129.text_, as_ r129.quoted_, ai r129.to_, ab r129.ok_]] ?_ ?_
                · simp -implicitDefEqProofs only [RUNS, qindex, Nat.reduceAdd, Nat.reduceLeDiff, Nat.reduceSub, reduceIte, Nat.reduceEqDiff, Nat.reduceLT, reduceCtorEq, Nat.reduceMul, Nat.reduceBEq, Int.reduceEq, if_true, if_false, eq_self, ne_eq, env_bT, T_3, T_9, T_42, T_62, Token.pv_eq, Part.pv_eq, pf_40, f131]
                refine AW.seq ?_
                refine AW.seq ?_
                refine AW.reg hS [(3, .ref 2 0), (4, .ref 3 0), (8, .ref 4 0), (149, ab (!r129.ok_))] [.row 32 4 (List.map Token.pv l7) true, .row 9 1 (List.map PV.str l8) true, .var [ai xat2, .vec 0 l7.length, ai xend3, ab xname4, .vec 1 l8.length, ai xe5, ai xoff6], .var [ai 0, .nils, ai 0, ab false, .nils, ai 0, ai 0], .var [as_ r129.text_, as_ r129.quoted_, ai r129.to_, ab r129.ok_]] ?_ ?_
                · simp -implicitDefEqProofs only [RUNS, qindex, Nat.reduceAdd, Nat.reduceLeDiff, Nat.reduceSub, reduceIte, Nat.reduceEqDiff, Nat.reduceLT, reduceCtorEq, Nat.reduceMul, Nat.reduceBEq, Int.reduceEq, if_true, if_false, eq_self, ne_eq, env_bT, T_4, T_62, Token.pv_eq, Part.pv_eq]
                refine AW.cond (b := !r129.ok_) rfl (fun hb132 => ?_) (fun hb132 => ?_)
                · replace h := bif_t hb132 h
                  refine AW.seq ?_
                  replace h := Option.bind_eq_some_iff.1 h; obtain ⟨⟨at133, end134, name135, e136, off137⟩, q138, h⟩ := h
                  dsimp only at h
                  have f139 := c_F19 xat2 xend3 xname4 xe5 xoff6 48 r129.to_ l7 l8 at133 end134 name135 e136 off137 q138
                  try dsimp only at f139
                  have e140 : ecall O [.row 32 4 (List.map Token.pv l7) true, .row 9 1 (List.map PV.str l8) true, .var [ai xat2, .vec 0 l7.length, ai xend3, ab xname4, .vec 1 l8.length, ai xe5, ai xoff6], .var [ai 0, .nils, ai 0, ab false, .nils, ai 0, ai 0], .var [as_ r129.text_, as_ r129.quoted_, ai r129.to_, ab r129.ok_]] 19 [.agg [ai xat2, .vec 0 l7.length, ai xend3, ab xname4, .vec 1 l8.length, ai xe5, ai xoff6], ai 48, ai r129.to_] = some (retAV [.agg [ai at133, .vec 0 l7.length, ai end134, ab name135, .vec 1 l8.length, ai e136, ai off137]], [.row 32 4 (List.map Token.pv l7) true, .row 9 1 (List.map PV.str l8) true, .var [ai xat2, .vec 0 l7.length, ai xend3, ab xname4, .vec 1 l8.length, ai xe5, ai xoff6], .var [ai 0, .nils, ai 0, ab false, .nils, ai 0, ai 0], .var [as_ r129.text_, as_ r129.quoted_, ai r129.to_, ab r129.ok_]]) := ecall_eq rfl rfl rfl f139 rfl rfl rfl
                  refine AW.reg hS [(4, .ref 3 0)] [.row 32 4 (List.map Token.pv l7) true, .row 9 1 (List.map PV.str l8) true, .var [ai xat2, .vec 0 l7.length, ai xend3, ab xname4, .vec 1 l8.length, ai xe5, ai xoff6], .var [ai at133, .vec 0 l7.length, ai end134, ab name135, .vec 1 l8.length, ai e136, ai off137], .var [as_ r129.text_, as_ r129.quoted_, ai r129.to_, ab r129.ok_]] ?_ ?_
                  · simp -implicitDefEqProofs only [RUNS, qindex, Nat.reduceAdd, Nat.reduceLeDiff, Nat.reduceSub, reduceIte, Nat.reduceEqDiff, Nat.reduceLT, reduceCtorEq, Nat.reduceMul, Nat.reduceBEq, Int.reduceEq, if_true, if_false, eq_self, ne_eq, env_bT, T_3, T_24, T_42, T_62, Token.pv_eq, Part.pv_eq, pf_19, e140]
                  refine AW.ret ?_
                  cases h
                  show finish _ _ _ _ _ = _
                  first | rfl | (simp [finish, resOf, renArgs, toPV, selObjs, sl])
                · replace h := bif_f hb132 h
                  refine AW.skip ?_
                  refine AW.seq ?_
                  replace h := Option.bind_eq_some_iff.1 h; obtain ⟨⟨at141, end142, name143, e144, off145, o146⟩, q147, h⟩ := h
                  dsimp only at h
                  have f148 := c_F39 xat2 xend3 xname4 xe5 xoff6 l7 l8 at141 end142 name143 e144 off145 o146 q147
                  try dsimp only at f148
                  have e149 : ecall O [.row 32 4 (List.map Token.pv l7) true, .row 9 1 (List.map PV.str l8) true, .var [ai xat2, .vec 0 l7.length, ai xend3, ab xname4, .vec 1 l8.length, ai xe5, ai xoff6], .var [ai 0, .nils, ai 0, ab false, .nils, ai 0, ai 0], .var [as_ r129.text_, as_ r129.quoted_, ai r129.to_, ab r129.ok_]] 39 [.agg [ai xat2, .vec 0 l7.length, ai xend3, ab xname4, .vec 1 l8.length, ai xe5, ai xoff6]] = some (retAV [.agg [ai at141, .vec 0 o146.length, ai end142, ab name143, .vec 1 l8.length, ai e144, ai off145]], [.row 32 4 (List.map Token.pv o146) true, .row 9 1 (List.map PV.str l8) true, .var [ai xat2, .vec 0 l7.length, ai xend3, ab xname4, .vec 1 l8.length, ai xe5, ai xoff6], .var [ai 0, .nils, ai 0, ab false, .nils, ai 0, ai 0], .var [as_ r129.text_, as_ r129.quoted_, ai r129.to_, ab r129.ok_]]) := ecall_eq rfl rfl rfl f148 rfl rfl rfl
                  replace h := Option.bind_eq_some_iff.1 h; obtain ⟨⟨at150, end151, name152, e153, off154, o155⟩, q156, h⟩ := h
                  dsimp only at h
                  have f157 := c_F35 at141 end142 name143 e144 off145 (Token.mk 1 xat2 r129.text_ r129.quoted_) o146 l8 at150 end151 name152 e153 off154 o155 q156
                  try dsimp only at f157
                  have e158 : ecall O [.row 32 4 (List.map Token.pv o146) true, .row 9 1 (List.map PV.str l8) true, .var [ai xat2, .vec 0 l7.length, ai xend3, ab xname4, .vec 1 l8.length, ai xe5, ai xoff6], .var [ai 0, .nils, ai 0, ab false, .nils, ai 0, ai 0], .var [as_ r129.text_, as_ r129.quoted_, ai r129.to_, ab r129.ok_]] 35 [.agg [ai at141, .vec 0 o146.length, ai end142, ab name143, .vec 1 l8.length, ai e144, ai off145], .pv (.agg [.int .i64 1, .int .i64 xat2, .str r129.text_, .str r129.quoted_])] = some (retAV [.agg [ai at150, .vec 0 o155.length, ai end151, ab name152, .vec 1 l8.length, ai e153, ai off154]], [.row 32 4 (List.map Token.pv o155) true, .row 9 1 (List.map PV.str l8) true, .var [ai xat2, .vec 0 l7.length, ai xend3, ab xname4, .vec 1 l8.length, ai xe5, ai xoff6], .var [ai 0, .nils, ai 0, ab false, .nils, ai 0, ai 0], .var [as_ r129.text_, as_ r129.quoted_, ai r129.to_, ab r129.ok_]]) := ecall_eq rfl rfl rfl f157 rfl rfl rfl
                  refine AW.dregV mixed hS [1, 9, 10] [(0, 0), (1, 0), (2, 0), (2, 1), (3, 0), (3, 1), (4, 0), (4, 1), (5, 0), (5, 1), (6, 0), (6, 1), (7, 0), (7, 1), (8, 0), (8, 1), (9, 1), (10, 2)] [.agg [ai xat2, .vec 0 l7.length, ai xend3, ab xname4, .vec 1 l8.length, ai xe5, ai xoff6], .agg [ai at141, .vec 0 o146.length, ai end142, ab name143, .vec 1 l8.length, ai e144, ai off145], .ref 2 0, ai xat2, .ref 4 0, as_ r129.text_, .ref 4 1, as_ r129.quoted_, .pv (.agg [.int .i64 1, .int .i64 xat2, .str r129.text_, .str r129.quoted_]), .agg [ai at150, .vec 0 o155.length, ai end151, ab name152, .vec 1 l8.length, ai e153, ai off154], .any] [[.row 32 4 (List.map Token.pv l7) true, .row 9 1 (List.map PV.str l8) true, .var [ai xat2, .vec 0 l7.length, ai xend3, ab xname4, .vec 1 l8.length, ai xe5, ai xoff6], .var [ai 0, .nils, ai 0, ab false, .nils, ai 0, ai 0], .var [as_ r129.text_, as_ r129.quoted_, ai r129.to_, ab r129.ok_]], [.row 32 4 (List.map Token.pv o146) true, .row 9 1 (List.map PV.str l8) true, .var [ai xat2, .vec 0 l7.length, ai xend3, ab xname4, .vec 1 l8.length, ai xe5, ai xoff6], .var [ai 0, .nils, ai 0, ab false, .nils, ai 0, ai 0], .var [as_ r129.text_, as_ r129.quoted_, ai r129.to_, ab r129.ok_]], [.row 32 4 (List.map Token.pv o155) true, .row 9 1 (List.map PV.str l8) true, .var [ai xat2, .vec 0 l7.length, ai xend3, ab xname4, .vec 1 l8.length, ai xe5, ai xoff6], .var [ai 0, .nils, ai 0, ab false, .nils, ai 0, ai 0], .var [as_ r129.text_, as_ r129.quoted_, ai r129.to_, ab r129.ok_]], [.row 32 4 (List.map Token.pv o155) true, .row 9 1 (List.map PV.str l8) true, .var [ai at150, .vec 0 o155.length, ai end151, ab name152, .vec 1 l8.length, ai e153, ai off154], .var [ai 0, .nils, ai 0, ab false, .nils, ai 0, ai 0], .var [as_ r129.text_, as_ r129.quoted_, ai r129.to_, ab r129.ok_]]] [(154, .agg [ai xat2, .vec 0 l7.length, ai xend3, ab xname4, .vec 1 l8.length, ai xe5, ai xoff6]), (155, .agg [ai at141, .vec 0 o146.length, ai end142, ab name143, .vec 1 l8.length, ai e144, ai off145]), (156, .ref 2 0), (157, ai xat2), (158, .ref 4 0), (159, as_ r129.text_), (160, .ref 4 1), (161, as_ r129.quoted_), (162, .pv (.agg [.int .i64 1, .int .i64 xat2, .str r129.text_, .str r129.quoted_])), (163, .agg [ai at150, .vec 0 o155.length, ai end151, ab name152, .vec 1 l8.length, ai e153, ai off154]), (3, .ref 2 0), (4, .ref 3 0), (8, .ref 4 0), (149, ab (!r129.ok_))] (by kernel_rfl) (by kernel_rfl) (by kernel_rfl) ?_ [(3, .ref 2 0), (4, .ref 3 0), (8, .ref 4 0)] [.row 32 4 (List.map Token.pv o155) true, .row 9 1 (List.map PV.str l8) true, .var [ai at150, .vec 0 o155.length, ai end151, ab name152, .vec 1 l8.length, ai e153, ai off154], .var [ai 0, .nils, ai 0, ab false, .nils, ai 0, ai 0], .var [as_ r129.text_, as_ r129.quoted_, ai r129.to_, ab r129.ok_]] ⟨rfl, rfl, rfl, trivial⟩ rfl ?_
                  · repeat' (first | exact Facts.nil | refine Facts.cons rfl rfl rfl ?_ ?_)
                    all_goals simp -implicitDefEqProofs only [RUNS, qindex, Nat.reduceAdd, Nat.reduceLeDiff, Nat.reduceSub, reduceIte, Nat.reduceEqDiff, Nat.reduceLT, reduceCtorEq, Nat.reduceMul, Nat.reduceBEq, Int.reduceEq, if_true, if_false, eq_self, ne_eq, adoes, gdec, List.getD_cons_zero, List.getD_cons_succ, List.contains_cons, List.contains_nil, Bool.false_eq_true, env_bT, T_3, T_9, T_32, T_42, T_62, Token.pv_eq, Part.pv_eq, pf_39, e149, ownT_32, pf_35, e158]
                  refine AW.seq ?_
                  refine AW.reg hS [(3, .ref 2 0), (4, .ref 3 0), (8, .ref 4 0)] [.row 32 4 (List.map Token.pv o155) true, .row 9 1 (List.map PV.str l8) true, .var [ai r129.to_, .vec 0 o155.length, ai end151, ab name152, .vec 1 l8.length, ai e153, ai off154], .var [ai 0, .nils, ai 0, ab false, .nils, ai 0, ai 0], .var [as_ r129.text_, as_ r129.quoted_, ai r129.to_, ab r129.ok_]] ?_ ?_
                  · simp -implicitDefEqProofs only [RUNS, qindex, Nat.reduceAdd, Nat.reduceLeDiff, Nat.reduceSub, reduceIte, Nat.reduceEqDiff, Nat.reduceLT, reduceCtorEq, Nat.reduceMul, Nat.reduceBEq, Int.reduceEq, if_true, if_false, eq_self, ne_eq, env_bT, T_3, T_42, T_62, Token.pv_eq, Part.pv_eq]
                  refine AW.seq ?_
                  refine AW.reg hS [(3, .ref 2 0), (4, .ref 3 0)] [.row 32 4 (List.map Token.pv o155) true, .row 9 1 (List.map PV.str l8) true, .var [ai r129.to_, .vec 0 o155.length, ai r129.to_, ab name152, .vec 1 l8.length, ai e153, ai off154], .var [ai 0, .nils, ai 0, ab false, .nils, ai 0, ai 0], .var [as_ r129.text_, as_ r129.quoted_, ai r129.to_, ab r129.ok_]] ?_ ?_
                  · simp -implicitDefEqProofs only [RUNS, qindex, Nat.reduceAdd, Nat.reduceLeDiff, Nat.reduceSub, reduceIte, Nat.reduceEqDiff, Nat.reduceLT, reduceCtorEq, Nat.reduceMul, Nat.reduceBEq, Int.reduceEq, if_true, if_false, eq_self, ne_eq, env_bT, T_3, T_42, T_62, Token.pv_eq, Part.pv_eq]
                  refine AW.seq ?_
                  refine AW.reg hS [(4, .ref 3 0)] [.row 32 4 (List.map Token.pv o155) true, .row 9 1 (List.map PV.str l8) true, .var [ai r129.to_, .vec 0 o155.length, ai r129.to_, ab name152, .vec 1 l8.length, ai e153, ai off154], .var [ai r129.to_, .vec 0 o155.length, ai r129.to_, ab name152, .vec 1 l8.length, ai e153, ai off154], .var [as_ r129.text_, as_ r129.quoted_, ai r129.to_, ab r129.ok_]] ?_ ?_
                  · simp -implicitDefEqProofs only [RUNS, qindex, Nat.reduceAdd, Nat.reduceLeDiff, Nat.reduceSub, reduceIte, Nat.reduceEqDiff, Nat.reduceLT, reduceCtorEq, Nat.reduceMul, Nat.reduceBEq, Int.reduceEq, if_true, if_false, eq_self, ne_eq, env_bT, T_42, Token.pv_eq, Part.pv_eq]
                  refine AW.ret ?_
                  cases h
                  show finish _ _ _ _ _ = _
                  first | rfl | (simp [finish, resOf, renArgs, toPV, selObjs, sl])

set_option maxHeartbeats 4000000 in
theorem g_F6 {O : Orc} (hS : Sound env O) (hpf : O.pf = pfn) (c_F18 : C_F18 O) (c_F19 : C_F19 O) (s1 : Str) (r2 : List Token) (r3 : Int) (r4 : Int) (h : F6 s1 = some (r2, r3, r4)) : Good env 6 [as_ s1] [] [.pv (.slice (List.map Token.pv r2)), ai r3, ai r4] [] := by
  have pf_18 : O.pf 18 = false := by rw [hpf]; rfl
  have pf_19 : O.pf 19 = false := by rw [hpf]; rfl
  refine Good.start (fn := Tryz.f6) (N := 46) fn_6 rfl rfl (by simp) [] _ rfl rfl ?_
  rw [F6] at h
  refine AW.seq ?_
  refine AW.reg hS [(0, as_ s1)] [] ?_ ?_
  · simp -implicitDefEqProofs only [RUNS, qindex, Nat.reduceAdd, Nat.reduceLeDiff, Nat.reduceSub, reduceIte, Nat.reduceEqDiff, Nat.reduceLT, reduceCtorEq, Nat.reduceMul, Nat.reduceBEq, Int.reduceEq, if_true, if_false, eq_self, ne_eq, env_bT, Token.pv_eq, Part.pv_eq]
  refine AW.seq ?_
  refine AW.seq ?_
  refine AW.reg hS [(0, as_ s1), (8, ab (decide (65536 < (s1.length : Int))))] [] ?_ ?_
  · simp -implicitDefEqProofs only [RUNS, qindex, Nat.reduceAdd, Nat.reduceLeDiff, Nat.reduceSub, reduceIte, Nat.reduceEqDiff, Nat.reduceLT, reduceCtorEq, Nat.reduceMul, Nat.reduceBEq, Int.reduceEq, if_true, if_false, eq_self, ne_eq, env_bT, T_3, T_9, Token.pv_eq, Part.pv_eq, eqT_3]
  refine AW.cond (b := decide (65536 < (s1.length : Int))) rfl (fun hb5 => ?_) (fun hb5 => ?_)
  · replace h := bif_t hb5 h
    refine AW.seq ?_
    refine AW.reg hS [(2, .nils), (3, ai 0), (4, ai 4)] [] ?_ ?_
    · simp -implicitDefEqProofs only [RUNS, qindex, Nat.reduceAdd, Nat.reduceLeDiff, Nat.reduceSub, reduceIte, Nat.reduceEqDiff, Nat.reduceLT, reduceCtorEq, Nat.reduceMul, Nat.reduceBEq, Int.reduceEq, if_true, if_false, eq_self, ne_eq, env_bT, Token.pv_eq, Part.pv_eq]
    refine AW.ret ?_
    cases h
    show finish _ _ _ _ _ = _
    first | rfl | (simp [finish, resOf, renArgs, toPV, selObjs, sl])
  · replace h := bif_f hb5 h
    refine AW.skip ?_
    refine AW.seq ?_
    refine AW.after ?_
    refine AW.reg hS [(0, as_ s1), (5, .ref 0 0)] [.var [ai 0, .nils, ai (-1), ab false, .nils, ai 0, ai 0]] ?_ ?_
    · simp -implicitDefEqProofs only [RUNS, qindex, Nat.reduceAdd, Nat.reduceLeDiff, Nat.reduceSub, reduceIte, Nat.reduceEqDiff, Nat.reduceLT, reduceCtorEq, Nat.reduceMul, Nat.reduceBEq, Int.reduceEq, if_true, if_false, eq_self, ne_eq, env_bT, T_42, Token.pv_eq, Part.pv_eq, ownT_42]
    refine ⟨⟨sl [(0, as_ s1), (5, .ref 0 0)], 46, [.var [ai 0, .vec 1 (List.length ([] : List Token)), ai (-1), ab false, .vec 2 (List.length ([] : List Str)), ai 0, ai 0], .row 32 4 (List.map Token.pv ([] : List Token)) true, .row 9 1 (List.map PV.str ([] : List Str)) true]⟩, (Weak.trans (Weak.ownC (σ := ⟨sl [(0, as_ s1), (5, .ref 0 0)], 46, [.var [ai 0, .nils, ai (-1), ab false, .nils, ai 0, ai 0]]⟩) 0 1 32 4 (by decide) (cs := [ai 0, .nils, ai (-1), ab false, .nils, ai 0, ai 0]) rfl rfl) (Weak.trans (Weak.slots (L := [(0, as_ s1), (5, .ref 0 0)]) ⟨rfl, rfl, trivial⟩) (Weak.trans (Weak.ownC (σ := ⟨sl [(0, as_ s1), (5, .ref 0 0)], 46, [.var [ai 0, .vec 1 (List.length ([] : List Token)), ai (-1), ab false, .nils, ai 0, ai 0], .row 32 4 (List.map Token.pv ([] : List Token)) true]⟩) 0 4 9 1 (by decide) (cs := [ai 0, .vec 1 (List.length ([] : List Token)), ai (-1), ab false, .nils, ai 0, ai 0]) rfl rfl) (Weak.slots (L := [(0, as_ s1), (5, .ref 0 0)]) ⟨rfl, rfl, trivial⟩)))), ?_⟩
    refine AW.seq ?_
    refine AW.block ?_
    refine AW.weak (Weak.slots (L := [(0, as_ s1), (5, .ref 0 0)]) ⟨rfl, rfl, trivial⟩) ?_
    refine AW.loopI (α := Nat × Int × Int × Bool × Int × Int × (List Token) × (List Str)) (fun (_, x6, x7, x8, x9, x10, l11, l12) => ⟨sl [(0, as_ s1), (5, .ref 0 0)], 46, [.var [ai x6, .vec 1 l11.length, ai x7, ab x8, .vec 2 l12.length, ai x9, ai x10], .row 32 4 (List.map Token.pv l11) true, .row 9 1 (List.map PV.str l12) true]⟩) (fun x => iter (F6_b1 s1) x.1 x.2 = some (r2, r3, r4)) (fun x => x.1) (BIG, (0, (-1), false, 0, 0, ([] : List Token), ([] : List Str))) h ?_
    clear h
    intro ⟨n57, x6, x7, x8, x9, x10, l11, l12⟩ h
    replace h := iter_some h; obtain ⟨m15, rfl, h⟩ := h
    rw [F6_b1] at h
    try dsimp only at h
    show AW _ _ _ _ ⟨sl [(0, as_ s1), (5, .ref 0 0)], 46, [.var [ai x6, .vec 1 l11.length, ai x7, ab x8, .vec 2 l12.length, ai x9, ai x10], .row 32 4 (List.map Token.pv l11) true, .row 9 1 (List.map PV.str l12) true]⟩
    refine AW.seq ?_
    refine AW.seq ?_
    refine AW.reg hS [(0, as_ s1), (5, .ref 0 0), (19, ab (decide (x9 = 0) && decide (x6 < (s1.length : Int))))] [.var [ai x6, .vec 1 l11.length, ai x7, ab x8, .vec 2 l12.length, ai x9, ai x10], .row 32 4 (List.map Token.pv l11) true, .row 9 1 (List.map PV.str l12) true] ?_ ?_
    · clear h
      (simp -implicitDefEqProofs only [RUNS, qindex, Nat.reduceAdd, Nat.reduceLeDiff, Nat.reduceSub, reduceIte, Nat.reduceEqDiff, Nat.reduceLT, reduceCtorEq, Nat.reduceMul, Nat.reduceBEq, Int.reduceEq, if_true, if_false, eq_self, ne_eq, env_bT, T_3, T_9, T_24, T_42, Token.pv_eq, Part.pv_eq, eqT_24, eqT_3]); repeat' (split <;> rename_i hb <;> (try simp only [HBS, ge_iff_le, gt_iff_lt] at hb) <;> simp -implicitDefEqProofs only [RUNS, qindex, Nat.reduceAdd, Nat.reduceLeDiff, Nat.reduceSub, reduceIte, Nat.reduceEqDiff, Nat.reduceLT, reduceCtorEq, Nat.reduceMul, Nat.reduceBEq, Int.reduceEq, if_true, if_false, eq_self, ne_eq, env_bT, T_3, T_9, T_24, T_42, Token.pv_eq, Part.pv_eq, eqT_24, eqT_3, *, decide_true, decide_false, Decidable.not_not, not_false_eq_true, not_true_eq_false])
      all_goals (first | (simp only [BOOLS]; done) | (simp [*]; done) | ((try simp only [CLOS, beq_iff_eq, bne_iff_ne, ne_eq] at *) <;> omega) | (simp_all; done) | (simp_all <;> omega))
    refine AW.cond (b := (decide (x9 = 0) && decide (x6 < (s1.length : Int)))) rfl (fun hb16 => ?_) (fun hb16 => ?_)
    · replace h := bif_t hb16 h
      refine AW.skip ?_
      refine AW.block ?_
      replace h := Option.bind_eq_some_iff.1 h; obtain ⟨⟨tag17, at18, end19, name20, e21, off22, o23, o24⟩, q25, h⟩ := h
      dsimp only at h
      refine AW.cases (tag17) (fun hsp16 => ?_) (fun hsp16 => ?_)
      · subst hsp16
        replace h := bif_t rfl h
        have f26 := c_F18 s1 x6 x7 x8 x9 x10 l11 l12 true at18 end19 name20 e21 off22 o23 o24 q25
        try dsimp only at f26
        simp only [cond_true, cond_false] at f26
        have e27 : ecall O [.var [ai x6, .vec 1 l11.length, ai x7, ab x8, .vec 2 l12.length, ai x9, ai x10], .row 32 4 (List.map Token.pv l11) true, .row 9 1 (List.map PV.str l12) true] 18 [as_ s1, .agg [ai x6, .vec 1 l11.length, ai x7, ab x8, .vec 2 l12.length, ai x9, ai x10]] = some (retAV [.agg [ai at18, .vec 1 o23.length, ai end19, ab name20, .vec 2 o24.length, ai e21, ai off22]], [.var [ai x6, .vec 1 l11.length, ai x7, ab x8, .vec 2 l12.length, ai x9, ai x10], .row 32 4 (List.map Token.pv o23) true, .row 9 1 (List.map PV.str o24) true]) := ecall_eq rfl rfl rfl f26 rfl rfl rfl
        refine AW.reg hS [(0, as_ s1), (5, .ref 0 0)] [.var [ai at18, .vec 1 o23.length, ai end19, ab name20, .vec 2 o24.length, ai e21, ai off22], .row 32 4 (List.map Token.pv o23) true, .row 9 1 (List.map PV.str o24) true] ?_ ?_
        · simp -implicitDefEqProofs only [RUNS, qindex, Nat.reduceAdd, Nat.reduceLeDiff, Nat.reduceSub, reduceIte, Nat.reduceEqDiff, Nat.reduceLT, reduceCtorEq, Nat.reduceMul, Nat.reduceBEq, Int.reduceEq, if_true, if_false, eq_self, ne_eq, env_bT, T_9, T_42, Token.pv_eq, Part.pv_eq, pf_18, e27]
        exact ⟨(m15, (at18, end19, name20, e21, off22, o23, o24)), h, (Weak.norm (m := 3) (Nat.le_of_ble_eq_true rfl) ⟨rfl, rfl, trivial⟩ rfl rfl rfl), Nat.lt_succ_self _⟩
      · subst hsp16
        replace h := bif_f rfl h
        have f26 := c_F18 s1 x6 x7 x8 x9 x10 l11 l12 false at18 end19 name20 e21 off22 o23 o24 q25
        try dsimp only at f26
        simp only [cond_true, cond_false] at f26
        have e27 : ecall O [.var [ai x6, .vec 1 l11.length, ai x7, ab x8, .vec 2 l12.length, ai x9, ai x10], .row 32 4 (List.map Token.pv l11) true, .row 9 1 (List.map PV.str l12) true] 18 [as_ s1, .agg [ai x6, .vec 1 l11.length, ai x7, ab x8, .vec 2 l12.length, ai x9, ai x10]] = some (retAV [.agg [ai at18, .vec 1 o23.length, ai end19, ab name20, .nils, ai e21, ai off22]], [.var [ai x6, .vec 1 l11.length, ai x7, ab x8, .vec 2 l12.length, ai x9, ai x10], .row 32 4 (List.map Token.pv o23) true, .row 9 1 (List.map PV.str o24) true]) := ecall_eq rfl rfl rfl f26 rfl rfl rfl
        refine AW.after ?_
        refine AW.reg hS [(0, as_ s1), (5, .ref 0 0)] [.var [ai at18, .vec 1 o23.length, ai end19, ab name20, .nils, ai e21, ai off22], .row 32 4 (List.map Token.pv o23) true, .row 9 1 (List.map PV.str o24) true] ?_ ?_
        · simp -implicitDefEqProofs only [RUNS, qindex, Nat.reduceAdd, Nat.reduceLeDiff, Nat.reduceSub, reduceIte, Nat.reduceEqDiff, Nat.reduceLT, reduceCtorEq, Nat.reduceMul, Nat.reduceBEq, Int.reduceEq, if_true, if_false, eq_self, ne_eq, env_bT, T_9, T_42, Token.pv_eq, Part.pv_eq, pf_18, e27]
        refine ⟨⟨sl [(0, as_ s1), (5, .ref 0 0)], 46, [.var [ai at18, .vec 1 o23.length, ai end19, ab name20, .vec 3 (List.length ([] : List Str)), ai e21, ai off22], .row 32 4 (List.map Token.pv o23) true, .row 9 1 (List.map PV.str o24) true, .row 9 1 (List.map PV.str ([] : List Str)) true]⟩, (Weak.trans (Weak.ownC (σ := ⟨sl [(0, as_ s1), (5, .ref 0 0)], 46, [.var [ai at18, .vec 1 o23.length, ai end19, ab name20, .nils, ai e21, ai off22], .row 32 4 (List.map Token.pv o23) true, .row 9 1 (List.map PV.str o24) true]⟩) 0 4 9 1 (by decide) (cs := [ai at18, .vec 1 o23.length, ai end19, ab name20, .nils, ai e21, ai off22]) rfl rfl) (Weak.slots (L := [(0, as_ s1), (5, .ref 0 0)]) ⟨rfl, rfl, trivial⟩)), ?_⟩
        exact ⟨(m15, (at18, end19, name20, e21, off22, o23, ([] : List Str))), h, (Weak.sel [0, 1, 3] (L := [(0, as_ s1), (5, .ref 0 0)]) ⟨rfl, rfl, trivial⟩ (by decide) rfl rfl), Nat.lt_succ_self _⟩
    · replace h := bif_f hb16 h
      refine AW.exit ?_
      refine AW.seqJ (α := Int × Int × Bool × Int × Int) (fun (x28, x29, x30, x31, x32) => ⟨sl [(0, as_ s1), (5, .ref 0 0)], 46, [.var [ai x28, .vec 1 l11.length, ai x29, ab x30, .vec 2 l12.length, ai x31, ai x32], .row 32 4 (List.map Token.pv l11) true, .row 9 1 (List.map PV.str l12) true]⟩) (fun x => F6_j2 l12 s1 l11 x = some (r2, r3, r4)) ?_ ?_
      · intro ⟨x28, x29, x30, x31, x32⟩ h
        rw [F6_j2] at h
        try dsimp only at h
        show AW _ _ _ _ ⟨sl [(0, as_ s1), (5, .ref 0 0)], 46, [.var [ai x28, .vec 1 l11.length, ai x29, ab x30, .vec 2 l12.length, ai x31, ai x32], .row 32 4 (List.map Token.pv l11) true, .row 9 1 (List.map PV.str l12) true]⟩
        refine AW.seqJ (α := Int × Int × Bool × Int × Int) (fun (x33, x34, x35, x36, x37) => ⟨sl [(5, .ref 0 0)], 46, [.var [ai x33, .vec 1 l11.length, ai x34, ab x35, .vec 2 l12.length, ai x36, ai x37], .row 32 4 (List.map Token.pv l11) true, .row 9 1 (List.map PV.str l12) true]⟩) (fun x => F6_j3 l11 x = some (r2, r3, r4)) ?_ ?_
        · intro ⟨x33, x34, x35, x36, x37⟩ h
          rw [F6_j3] at h
          try dsimp only at h
          show AW _ _ _ _ ⟨sl [(5, .ref 0 0)], 46, [.var [ai x33, .vec 1 l11.length, ai x34, ab x35, .vec 2 l12.length, ai x36, ai x37], .row 32 4 (List.map Token.pv l11) true, .row 9 1 (List.map PV.str l12) true]⟩
          refine AW.seq ?_
          refine AW.seq ?_
          refine AW.reg hS [(5, .ref 0 0), (39, ab (!decide (x36 = 0)))] [.var [ai x33, .vec 1 l11.length, ai x34, ab x35, .vec 2 l12.length, ai x36, ai x37], .row 32 4 (List.map Token.pv l11) true, .row 9 1 (List.map PV.str l12) true] ?_ ?_
          · simp -implicitDefEqProofs only [RUNS, qindex, Nat.reduceAdd, Nat.reduceLeDiff, Nat.reduceSub, reduceIte, Nat.reduceEqDiff, Nat.reduceLT, reduceCtorEq, Nat.reduceMul, Nat.reduceBEq, Int.reduceEq, if_true, if_false, eq_self, ne_eq, env_bT, T_24, T_42, Token.pv_eq, Part.pv_eq, eqT_24]
          refine AW.cond (b := !decide (x36 = 0)) rfl (fun hb38 => ?_) (fun hb38 => ?_)
          · replace h := bif_t hb38 h
            refine AW.seq ?_
            refine AW.dreg mixed hS (hpf ▸ (by kernel_rfl : orderOK pfn _ = true)) [(2, .nils), (3, ai x37), (4, ai x36)] [.var [ai x33, .vec 1 l11.length, ai x34, ab x35, .vec 2 l12.length, ai x36, ai x37], .row 32 4 (List.map Token.pv l11) true, .row 9 1 (List.map PV.str l12) true] ?_ ?_
            · simp -implicitDefEqProofs only [RUNS, qindex, Nat.reduceAdd, Nat.reduceLeDiff, Nat.reduceSub, reduceIte, Nat.reduceEqDiff, Nat.reduceLT, reduceCtorEq, Nat.reduceMul, Nat.reduceBEq, Int.reduceEq, if_true, if_false, eq_self, ne_eq, env_bT, T_3, T_24, T_42, Token.pv_eq, Part.pv_eq]
            refine AW.ret ?_
            cases h
            show finish _ _ _ _ _ = _
            first | rfl | (simp [finish, resOf, renArgs, toPV, selObjs, sl])
          · replace h := bif_f hb38 h
            refine AW.skip ?_
            refine AW.seq ?_
            refine AW.reg hS [(2, .vec 1 l11.length), (3, ai 0), (4, ai 0)] [.var [ai x33, .vec 1 l11.length, ai x34, ab x35, .vec 2 l12.length, ai x36, ai x37], .row 32 4 (List.map Token.pv l11) true, .row 9 1 (List.map PV.str l12) true] ?_ ?_
            · simp -implicitDefEqProofs only [RUNS, qindex, Nat.reduceAdd, Nat.reduceLeDiff, Nat.reduceSub, reduceIte, Nat.reduceEqDiff, Nat.reduceLT, reduceCtorEq, Nat.reduceMul, Nat.reduceBEq, Int.reduceEq, if_true, if_false, eq_self, ne_eq, env_bT, T_23, T_32, T_42, Token.pv_eq, Part.pv_eq]
            refine AW.ret ?_
            cases h
            show finish _ _ _ _ _ = _
            first | rfl | (simp [finish, resOf, renArgs, toPV, selObjs, sl])
        refine AW.seq ?_
        refine AW.reg hS [(0, as_ s1), (5, .ref 0 0), (32, ab (decide (0 < (l12.length : Int))))] [.var [ai x28, .vec 1 l11.length, ai x29, ab x30, .vec 2 l12.length, ai x31, ai x32], .row 32 4 (List.map Token.pv l11) true, .row 9 1 (List.map PV.str l12) true] ?_ ?_
        · simp -implicitDefEqProofs only [RUNS, qindex, Nat.reduceAdd, Nat.reduceLeDiff, Nat.reduceSub, reduceIte, Nat.reduceEqDiff, Nat.reduceLT, reduceCtorEq, Nat.reduceMul, Nat.reduceBEq, Int.reduceEq, if_true, if_false, eq_self, ne_eq, env_bT, T_3, T_9, T_35, T_42, Token.pv_eq, Part.pv_eq, eqT_3]
        refine AW.cond (b := decide (0 < (l12.length : Int))) rfl (fun hb39 => ?_) (fun hb39 => ?_)
        · replace h := bif_t hb39 h
          replace h := Option.bind_eq_some_iff.1 h; obtain ⟨⟨at40, end41, name42, e43, off44⟩, q45, h⟩ := h
          dsimp only at h
          have f46 := c_F19 x28 x29 x30 x31 x32 3 (s1.length : Int) l11 l12 at40 end41 name42 e43 off44 q45
          try dsimp only at f46
          have e47 : ecall O [.var [ai x28, .vec 1 l11.length, ai x29, ab x30, .vec 2 l12.length, ai x31, ai x32], .row 32 4 (List.map Token.pv l11) true, .row 9 1 (List.map PV.str l12) true] 19 [.agg [ai x28, .vec 1 l11.length, ai x29, ab x30, .vec 2 l12.length, ai x31, ai x32], ai 3, ai (s1.length : Int)] = some (retAV [.agg [ai at40, .vec 1 l11.length, ai end41, ab name42, .vec 2 l12.length, ai e43, ai off44]], [.var [ai x28, .vec 1 l11.length, ai x29, ab x30, .vec 2 l12.length, ai x31, ai x32], .row 32 4 (List.map Token.pv l11) true, .row 9 1 (List.map PV.str l12) true]) := ecall_eq rfl rfl rfl f46 rfl rfl rfl
          refine AW.reg hS [(5, .ref 0 0)] [.var [ai at40, .vec 1 l11.length, ai end41, ab name42, .vec 2 l12.length, ai e43, ai off44], .row 32 4 (List.map Token.pv l11) true, .row 9 1 (List.map PV.str l12) true] ?_ ?_
          · simp -implicitDefEqProofs only [RUNS, qindex, Nat.reduceAdd, Nat.reduceLeDiff, Nat.reduceSub, reduceIte, Nat.reduceEqDiff, Nat.reduceLT, reduceCtorEq, Nat.reduceMul, Nat.reduceBEq, Int.reduceEq, if_true, if_false, eq_self, ne_eq, env_bT, T_3, T_9, T_24, T_42, Token.pv_eq, Part.pv_eq, pf_19, e47]
          exact ⟨(at40, end41, name42, e43, off44), h, (Weak.norm (m := 3) (Nat.le_of_ble_eq_true rfl) ⟨rfl, trivial⟩ rfl rfl rfl)⟩
        · replace h := bif_f hb39 h
          refine AW.skip ?_
          exact ⟨(x28, x29, x30, x31, x32), h, (Weak.norm (m := 3) (Nat.le_of_ble_eq_true rfl) ⟨rfl, trivial⟩ rfl rfl rfl)⟩
      refine AW.seq ?_
      refine AW.reg hS [(0, as_ s1), (5, .ref 0 0), (24, ab x8)] [.var [ai x6, .vec 1 l11.length, ai x7, ab x8, .vec 2 l12.length, ai x9, ai x10], .row 32 4 (List.map Token.pv l11) true, .row 9 1 (List.map PV.str l12) true] ?_ ?_
      · simp -implicitDefEqProofs only [RUNS, qindex, Nat.reduceAdd, Nat.reduceLeDiff, Nat.reduceSub, reduceIte, Nat.reduceEqDiff, Nat.reduceLT, reduceCtorEq, Nat.reduceMul, Nat.reduceBEq, Int.reduceEq, if_true, if_false, eq_self, ne_eq, env_bT, T_4, T_42, Token.pv_eq, Part.pv_eq]
      refine AW.cond (b := x8) rfl (fun hb48 => ?_) (fun hb48 => ?_)
      · replace h := bif_t hb48 h
        replace h := Option.bind_eq_some_iff.1 h; obtain ⟨⟨at49, end50, name51, e52, off53⟩, q54, h⟩ := h
        dsimp only at h
        have f55 := c_F19 x6 x7 x8 x9 x10 47 x6 l11 l12 at49 end50 name51 e52 off53 q54
        try dsimp only at f55
        have e56 : ecall O [.var [ai x6, .vec 1 l11.length, ai x7, ab x8, .vec 2 l12.length, ai x9, ai x10], .row 32 4 (List.map Token.pv l11) true, .row 9 1 (List.map PV.str l12) true] 19 [.agg [ai x6, .vec 1 l11.length, ai x7, ab x8, .vec 2 l12.length, ai x9, ai x10], ai 47, ai x6] = some (retAV [.agg [ai at49, .vec 1 l11.length, ai end50, ab name51, .vec 2 l12.length, ai e52, ai off53]], [.var [ai x6, .vec 1 l11.length, ai x7, ab x8, .vec 2 l12.length, ai x9, ai x10], .row 32 4 (List.map Token.pv l11) true, .row 9 1 (List.map PV.str l12) true]) := ecall_eq rfl rfl rfl f55 rfl rfl rfl
        refine AW.reg hS [(0, as_ s1), (5, .ref 0 0)] [.var [ai at49, .vec 1 l11.length, ai end50, ab name51, .vec 2 l12.length, ai e52, ai off53], .row 32 4 (List.map Token.pv l11) true, .row 9 1 (List.map PV.str l12) true] ?_ ?_
        · simp -implicitDefEqProofs only [RUNS, qindex, Nat.reduceAdd, Nat.reduceLeDiff, Nat.reduceSub, reduceIte, Nat.reduceEqDiff, Nat.reduceLT, reduceCtorEq, Nat.reduceMul, Nat.reduceBEq, Int.reduceEq, if_true, if_false, eq_self, ne_eq, env_bT, T_3, T_24, T_42, Token.pv_eq, Part.pv_eq, pf_19, e56]
        exact ⟨(at49, end50, name51, e52, off53), h, (Weak.norm (m := 3) (Nat.le_of_ble_eq_true rfl) ⟨rfl, rfl, trivial⟩ rfl rfl rfl)⟩
      · replace h := bif_f hb48 h
        refine AW.skip ?_
        exact ⟨(x6, x7, x8, x9, x10), h, (Weak.norm (m := 3) (Nat.le_of_ble_eq_true rfl) ⟨rfl, rfl, trivial⟩ rfl rfl rfl)⟩

set_option maxHeartbeats 4000000 in
theorem g_F7 {O : Orc} (hS : Sound env O) (hpf : O.pf = pfn) (a1 : List Token) (b2 : List Token) (r3 : Bool) (h : F7 a1 b2 = some r3) : Good env 7 [.pv (.slice (List.map Token.pv a1)), .pv (.slice (List.map Token.pv b2))] [] [ab r3] [] := by
  refine Good.start (fn := Tryz.f7) (N := 26) fn_7 rfl rfl (by simp) [] _ rfl rfl ?_
  rw [F7] at h
  refine AW.seq ?_
  refine AW.reg hS [(0, .pv (.slice (List.map Token.pv a1))), (1, .pv (.slice (List.map Token.pv b2)))] [] ?_ ?_
  · simp -implicitDefEqProofs only [RUNS, qindex, Nat.reduceAdd, Nat.reduceLeDiff, Nat.reduceSub, reduceIte, Nat.reduceEqDiff, Nat.reduceLT, reduceCtorEq, Nat.reduceMul, Nat.reduceBEq, Int.reduceEq, if_true, if_false, eq_self, ne_eq, env_bT, Token.pv_eq, Part.pv_eq]
  refine AW.seq ?_
  refine AW.seq ?_
  refine AW.reg hS [(0, .pv (.slice (List.map Token.pv a1))), (1, .pv (.slice (List.map Token.pv b2))), (10, ab (!decide ((a1.length : Int) = (b2.length : Int))))] [] ?_ ?_
  · simp -implicitDefEqProofs only [RUNS, qindex, Nat.reduceAdd, Nat.reduceLeDiff, Nat.reduceSub, reduceIte, Nat.reduceEqDiff, Nat.reduceLT, reduceCtorEq, Nat.reduceMul, Nat.reduceBEq, Int.reduceEq, if_true, if_false, eq_self, ne_eq, env_bT, T_3, T_23, T_32, Token.pv_eq, Part.pv_eq, eqT_3]
  refine AW.cond (b := !decide ((a1.length : Int) = (b2.length : Int))) rfl (fun hb4 => ?_) (fun hb4 => ?_)
  · replace h := bif_t hb4 h
    refine AW.seq ?_
    refine AW.reg hS [(4, ab false)] [] ?_ ?_
    · simp -implicitDefEqProofs only [RUNS, qindex, Nat.reduceAdd, Nat.reduceLeDiff, Nat.reduceSub, reduceIte, Nat.reduceEqDiff, Nat.reduceLT, reduceCtorEq, Nat.reduceMul, Nat.reduceBEq, Int.reduceEq, if_true, if_false, eq_self, ne_eq, env_bT, Token.pv_eq, Part.pv_eq]
    refine AW.ret ?_
    cases h
    show finish _ _ _ _ _ = _
    first | rfl | (simp [finish, resOf, renArgs, toPV, selObjs, sl])
  · replace h := bif_f hb4 h
    refine AW.skip ?_
    refine AW.seq ?_
    refine AW.seq ?_
    refine AW.reg hS [(0, .pv (.slice (List.map Token.pv a1))), (1, .pv (.slice (List.map Token.pv b2))), (5, ai 0)] [] ?_ ?_
    · simp -implicitDefEqProofs only [RUNS, qindex, Nat.reduceAdd, Nat.reduceLeDiff, Nat.reduceSub, reduceIte, Nat.reduceEqDiff, Nat.reduceLT, reduceCtorEq, Nat.reduceMul, Nat.reduceBEq, Int.reduceEq, if_true, if_false, eq_self, ne_eq, env_bT, Token.pv_eq, Part.pv_eq]
    refine AW.block ?_
    refine AW.weak (Weak.slots (L := [(0, .pv (.slice (List.map Token.pv a1))), (1, .pv (.slice (List.map Token.pv b2))), (5, ai 0)]) ⟨rfl, rfl, rfl, trivial⟩) ?_
    refine AW.loopI (α := Nat × Int) (fun (_, i5) => ⟨sl [(0, .pv (.slice (List.map Token.pv a1))), (1, .pv (.slice (List.map Token.pv b2))), (5, ai i5)], 26, []⟩) (fun x => iter (F7_b1 a1 b2) x.1 x.2 = some r3) (fun x => x.1) (BIG, 0) h ?_
    clear h
    intro ⟨n17, i5⟩ h
    replace h := iter_some h; obtain ⟨m8, rfl, h⟩ := h
    rw [F7_b1] at h
    try dsimp only at h
    show AW _ _ _ _ ⟨sl [(0, .pv (.slice (List.map Token.pv a1))), (1, .pv (.slice (List.map Token.pv b2))), (5, ai i5)], 26, []⟩
    refine AW.seq ?_
    refine AW.seq ?_
    refine AW.reg hS [(0, .pv (.slice (List.map Token.pv a1))), (1, .pv (.slice (List.map Token.pv b2))), (5, ai i5), (14, ab (decide (i5 < (a1.length : Int))))] [] ?_ ?_
    · simp -implicitDefEqProofs only [RUNS, qindex, Nat.reduceAdd, Nat.reduceLeDiff, Nat.reduceSub, reduceIte, Nat.reduceEqDiff, Nat.reduceLT, reduceCtorEq, Nat.reduceMul, Nat.reduceBEq, Int.reduceEq, if_true, if_false, eq_self, ne_eq, env_bT, T_3, T_23, T_32, Token.pv_eq, Part.pv_eq, eqT_3]
    refine AW.cond (b := decide (i5 < (a1.length : Int))) rfl (fun hb9 => ?_) (fun hb9 => ?_)
    · replace h := bif_t hb9 h
      refine AW.skip ?_
      refine AW.seq ?_
      refine AW.block ?_
      refine AW.seq ?_
      replace h := Option.bind_eq_some_iff.1 h; obtain ⟨u10, q11, h⟩ := h
      have f12 := lidx_f q11
      replace h := Option.bind_eq_some_iff.1 h; obtain ⟨u13, q14, h⟩ := h
      have f15 := lidx_f q14
      refine AW.dreg mixed hS (hpf ▸ (by kernel_rfl : orderOK pfn _ = true)) [(0, .pv (.slice (List.map Token.pv a1))), (1, .pv (.slice (List.map Token.pv b2))), (5, ai i5), (25, ab (!(decide (u10.kind_ = u13.kind_) && (decide (u10.at_ = u13.at_) && (decide (u10.text_ = u13.text_) && (decide (u10.quoted_ = u13.quoted_)))))))] [] ?_ ?_
      · simp -implicitDefEqProofs only [RUNS, qindex, Nat.reduceAdd, Nat.reduceLeDiff, Nat.reduceSub, reduceIte, Nat.reduceEqDiff, Nat.reduceLT, reduceCtorEq, Nat.reduceMul, Nat.reduceBEq, Int.reduceEq, if_true, if_false, eq_self, ne_eq, env_bT, T_23, T_32, Token.pv_eq, Part.pv_eq, f12.1, f12.2.1, f15.1, f15.2.1, eqT_32]
      refine AW.cond (b := !(decide (u10.kind_ = u13.kind_) && (decide (u10.at_ = u13.at_) && (decide (u10.text_ = u13.text_) && (decide (u10.quoted_ = u13.quoted_)))))) rfl (fun hb16 => ?_) (fun hb16 => ?_)
      · replace h := bif_t hb16 h
        refine AW.seq ?_
        refine AW.reg hS [(4, ab false)] [] ?_ ?_
        · simp -implicitDefEqProofs only [RUNS, qindex, Nat.reduceAdd, Nat.reduceLeDiff, Nat.reduceSub, reduceIte, Nat.reduceEqDiff, Nat.reduceLT, reduceCtorEq, Nat.reduceMul, Nat.reduceBEq, Int.reduceEq, if_true, if_false, eq_self, ne_eq, env_bT, Token.pv_eq, Part.pv_eq]
        refine AW.ret ?_
        cases h
        show finish _ _ _ _ _ = _
        first | rfl | (simp [finish, resOf, renArgs, toPV, selObjs, sl])
      · replace h := bif_f hb16 h
        refine AW.skip ?_
        refine AW.reg hS [(0, .pv (.slice (List.map Token.pv a1))), (1, .pv (.slice (List.map Token.pv b2))), (5, ai (IntKind.wrap .i64 (i5 + 1)))] [] ?_ ?_
        · simp -implicitDefEqProofs only [RUNS, qindex, Nat.reduceAdd, Nat.reduceLeDiff, Nat.reduceSub, reduceIte, Nat.reduceEqDiff, Nat.reduceLT, reduceCtorEq, Nat.reduceMul, Nat.reduceBEq, Int.reduceEq, if_true, if_false, eq_self, ne_eq, env_bT, T_3, Token.pv_eq, Part.pv_eq, eqT_3]
        exact ⟨(m8, IntKind.wrap .i64 (i5 + 1)), h, (Weak.norm (m := 0) (Nat.le_of_ble_eq_true rfl) ⟨rfl, rfl, rfl, trivial⟩ rfl rfl rfl), Nat.lt_succ_self _⟩
    · replace h := bif_f hb9 h
      refine AW.exit ?_
      refine AW.seq ?_
      refine AW.reg hS [(4, ab true)] [] ?_ ?_
      · simp -implicitDefEqProofs only [RUNS, qindex, Nat.reduceAdd, Nat.reduceLeDiff, Nat.reduceSub, reduceIte, Nat.reduceEqDiff, Nat.reduceLT, reduceCtorEq, Nat.reduceMul, Nat.reduceBEq, Int.reduceEq, if_true, if_false, eq_self, ne_eq, env_bT, Token.pv_eq, Part.pv_eq]
      refine AW.ret ?_
      cases h
      show finish _ _ _ _ _ = _
      first | rfl | (simp [finish, resOf, renArgs, toPV, selObjs, sl])

set_option maxHeartbeats 4000000 in
theorem g_F3 {O : Orc} (hS : Sound env O) (hpf : O.pf = pfn) (c_F4 : C_F4 O) (c_F5 : C_F5 O) (c_F6 : C_F6 O) (c_F7 : C_F7 O) (s1 : Str) (r2 : Bool) (h : F3 s1 = some r2) : Good env 3 [as_ s1] [] [ab r2] [] := by
  have pf_4 : O.pf 4 = true := by rw [hpf]; rfl
  have pf_5 : O.pf 5 = true := by rw [hpf]; rfl
  have pf_6 : O.pf 6 = true := by rw [hpf]; rfl
  have pf_7 : O.pf 7 = true := by rw [hpf]; rfl
  refine Good.start (fn := Tryz.f3) (N := 41) fn_3 rfl rfl (by simp) [] _ rfl rfl ?_
  rw [F3] at h
  refine AW.seq ?_
  refine AW.reg hS [(0, as_ s1)] [] ?_ ?_
  · simp -implicitDefEqProofs only [RUNS, qindex, Nat.reduceAdd, Nat.reduceLeDiff, Nat.reduceSub, reduceIte, Nat.reduceEqDiff, Nat.reduceLT, reduceCtorEq, Nat.reduceMul, Nat.reduceBEq, Int.reduceEq, if_true, if_false, eq_self, ne_eq, env_bT, Token.pv_eq, Part.pv_eq]
  refine AW.seq ?_
  refine AW.seq ?_
  refine AW.reg hS [(0, as_ s1), (11, ab (decide (3000 < (s1.length : Int))))] [] ?_ ?_
  · simp -implicitDefEqProofs only [RUNS, qindex, Nat.reduceAdd, Nat.reduceLeDiff, Nat.reduceSub, reduceIte, Nat.reduceEqDiff, Nat.reduceLT, reduceCtorEq, Nat.reduceMul, Nat.reduceBEq, Int.reduceEq, if_true, if_false, eq_self, ne_eq, env_bT, T_3, T_9, Token.pv_eq, Part.pv_eq, eqT_3]
  refine AW.cond (b := decide (3000 < (s1.length : Int))) rfl (fun hb3 => ?_) (fun hb3 => ?_)
  · replace h := bif_t hb3 h
    refine AW.seq ?_
    replace h := Option.bind_eq_some_iff.1 h; obtain ⟨r4, q5, h⟩ := h
    have f6 := c_F4 r4 q5
    try dsimp only at f6
    refine AW.reg hS [(2, ab r4)] [] ?_ ?_
    · simp -implicitDefEqProofs only [RUNS, qindex, Nat.reduceAdd, Nat.reduceLeDiff, Nat.reduceSub, reduceIte, Nat.reduceEqDiff, Nat.reduceLT, reduceCtorEq, Nat.reduceMul, Nat.reduceBEq, Int.reduceEq, if_true, if_false, eq_self, ne_eq, env_bT, Token.pv_eq, Part.pv_eq, pf_4, f6]
    refine AW.ret ?_
    cases h
    show finish _ _ _ _ _ = _
    first | rfl | (simp [finish, resOf, renArgs, toPV, selObjs, sl])
  · replace h := bif_f hb3 h
    refine AW.skip ?_
    refine AW.seq ?_
    replace h := Option.bind_eq_some_iff.1 h; obtain ⟨⟨r7, r8, r9⟩, q10, h⟩ := h
    dsimp only at h
    have f11 := c_F5 s1 r7 r8 r9 q10
    try dsimp only at f11
    refine AW.reg hS [(0, as_ s1), (3, .pv (.slice (List.map Token.pv r7))), (4, ai r8), (5, ai r9)] [] ?_ ?_
    · simp -implicitDefEqProofs only [RUNS, qindex, Nat.reduceAdd, Nat.reduceLeDiff, Nat.reduceSub, reduceIte, Nat.reduceEqDiff, Nat.reduceLT, reduceCtorEq, Nat.reduceMul, Nat.reduceBEq, Int.reduceEq, if_true, if_false, eq_self, ne_eq, env_bT, T_9, Token.pv_eq, Part.pv_eq, pf_5, f11]
    refine AW.seq ?_
    replace h := Option.bind_eq_some_iff.1 h; obtain ⟨⟨r12, r13, r14⟩, q15, h⟩ := h
    dsimp only at h
    have f16 := c_F6 s1 r12 r13 r14 q15
    try dsimp only at f16
    refine AW.reg hS [(3, .pv (.slice (List.map Token.pv r7))), (4, ai r8), (5, ai r9), (6, .pv (.slice (List.map Token.pv r12))), (7, ai r13), (8, ai r14)] [] ?_ ?_
    · simp -implicitDefEqProofs only [RUNS, qindex, Nat.reduceAdd, Nat.reduceLeDiff, Nat.reduceSub, reduceIte, Nat.reduceEqDiff, Nat.reduceLT, reduceCtorEq, Nat.reduceMul, Nat.reduceBEq, Int.reduceEq, if_true, if_false, eq_self, ne_eq, env_bT, T_9, Token.pv_eq, Part.pv_eq, pf_6, f16]
    refine AW.seq ?_
    replace h := Option.bind_eq_some_iff.1 h; obtain ⟨r17, q18, h⟩ := h
    have f19 := c_F7 r7 r12 r17 q18
    try dsimp only at f19
    replace h := Option.bind_eq_some_iff.1 h; obtain ⟨r20, q21, h⟩ := h
    have f22 := fun hg => c_F4 r20 (guardO_t q21 hg)
    try dsimp only at f22
    refine AW.reg hS [(2, ab (((r17 && decide (r8 = r13)) && decide (r9 = r14)) && r20))] [] ?_ ?_
    · clear h
      (simp -implicitDefEqProofs only [RUNS, qindex, Nat.reduceAdd, Nat.reduceLeDiff, Nat.reduceSub, reduceIte, Nat.reduceEqDiff, Nat.reduceLT, reduceCtorEq, Nat.reduceMul, Nat.reduceBEq, Int.reduceEq, if_true, if_false, eq_self, ne_eq, env_bT, T_3, T_23, T_24, T_32, Token.pv_eq, Part.pv_eq, pf_7, f19, eqT_3, eqT_24, pf_4, f22]); repeat' (split <;> rename_i hb <;> (try simp only [HBS, ge_iff_le, gt_iff_lt] at hb) <;> simp -implicitDefEqProofs only [RUNS, qindex, Nat.reduceAdd, Nat.reduceLeDiff, Nat.reduceSub, reduceIte, Nat.reduceEqDiff, Nat.reduceLT, reduceCtorEq, Nat.reduceMul, Nat.reduceBEq, Int.reduceEq, if_true, if_false, eq_self, ne_eq, env_bT, T_3, T_23, T_24, T_32, Token.pv_eq, Part.pv_eq, pf_7, f19, eqT_3, eqT_24, pf_4, f22, *, decide_true, decide_false, Decidable.not_not, not_false_eq_true, not_true_eq_false])
      all_goals (first | (simp only [BOOLS]; done) | (simp [*]; done) | ((try simp only [CLOS, beq_iff_eq, bne_iff_ne, ne_eq] at *) <;> omega) | (simp_all; done) | (simp_all <;> omega))
    refine AW.ret ?_
    cases h
    show finish _ _ _ _ _ = _
    first | rfl | (simp [finish, resOf, renArgs, toPV, selObjs, sl])

end Go.Abs.U47
