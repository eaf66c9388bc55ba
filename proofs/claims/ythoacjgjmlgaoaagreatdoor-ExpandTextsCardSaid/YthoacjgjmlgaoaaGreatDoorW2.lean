/- The layer 50 laws: the functions walked. -/
import Derived.Test.YthoacjgjmlgaoaaGreatDoorD1
set_option linter.unusedVariables false
set_option linter.unusedSimpArgs false
set_option maxRecDepth 8000
namespace Go.Abs.U5Z
open Go.RowKit Go.Proofs

set_option maxHeartbeats 4000000 in
theorem g_F19 {O : Orc} (hS : Sound env O) (hpf : O.pf = pfn) (c_F37 : C_F37 O) (l1 : List Str) (idx2 : List Str) (r3 : List Str) (r4 : Int) (h : F19 l1 idx2 = some (r3, r4)) : Good env 19 [.pv (.slice (List.map PV.str l1)), .pv (.slice (List.map PV.str idx2))] [] [.pv (.slice (List.map PV.str r3)), .pv (.int .i64 r4)] [] := by
  have pf_37 : O.pf 37 = true := by rw [hpf]; rfl
  refine Good.start (fn := Tryz.f19) (N := 38) fn_19 rfl rfl (by simp) [] _ rfl rfl ?_
  rw [F19] at h
  refine AW.seq ?_
  refine AW.reg hS [(0, .pv (.slice (List.map PV.str l1))), (1, .pv (.slice (List.map PV.str idx2)))] [] ?_ ?_
  · simp -implicitDefEqProofs only [RUNS, qindex, Nat.reduceAdd, Nat.reduceLeDiff, Nat.reduceSub, reduceIte, Nat.reduceEqDiff, Nat.reduceLT, reduceCtorEq, Nat.reduceMul, Nat.reduceBEq, Int.reduceEq, if_true, if_false, eq_self, ne_eq, env_bT, P29_eq, Var.pv_eq, P32_eq, GEnv.pv_eq, P41_eq, Redir.pv_eq, P152_eq, Cmd.pv_eq, P42_eq, Word.pv_eq, GValue.pv_eq]
  refine AW.seq ?_
  refine AW.reg hS [(0, .pv (.slice (List.map PV.str l1))), (1, .pv (.slice (List.map PV.str idx2))), (6, .nils)] [] ?_ ?_
  · simp -implicitDefEqProofs only [RUNS, qindex, Nat.reduceAdd, Nat.reduceLeDiff, Nat.reduceSub, reduceIte, Nat.reduceEqDiff, Nat.reduceLT, reduceCtorEq, Nat.reduceMul, Nat.reduceBEq, Int.reduceEq, if_true, if_false, eq_self, ne_eq, env_bT, P29_eq, Var.pv_eq, P32_eq, GEnv.pv_eq, P41_eq, Redir.pv_eq, P152_eq, Cmd.pv_eq, P42_eq, Word.pv_eq, GValue.pv_eq]
  refine AW.weak (Weak.own 6 9 1 (by decide) rfl) ?_
  refine AW.weak (Weak.slots (L := [(0, .pv (.slice (List.map PV.str l1))), (1, .pv (.slice (List.map PV.str idx2))), (6, .vec 0 (List.length ([] : List Str)))]) ⟨rfl, rfl, rfl, trivial⟩) ?_
  refine AW.seq ?_
  refine AW.seq ?_
  refine AW.reg hS [(0, .pv (.slice (List.map PV.str l1))), (6, .vec 0 (List.length ([] : List Str))), (11, .pv (.slice (List.map PV.str idx2))), (12, .pv (.int .i64 (idx2.length : Int))), (13, .pv (.int .i64 0))] [.row 9 1 (List.map PV.str ([] : List Str)) true] ?_ ?_
  · simp -implicitDefEqProofs only [RUNS, qindex, Nat.reduceAdd, Nat.reduceLeDiff, Nat.reduceSub, reduceIte, Nat.reduceEqDiff, Nat.reduceLT, reduceCtorEq, Nat.reduceMul, Nat.reduceBEq, Int.reduceEq, if_true, if_false, eq_self, ne_eq, env_bT, T_9, T_29, P29_eq, Var.pv_eq, P32_eq, GEnv.pv_eq, P41_eq, Redir.pv_eq, P152_eq, Cmd.pv_eq, P42_eq, Word.pv_eq, GValue.pv_eq]
  refine AW.block ?_
  refine AW.weak (Weak.slots (L := [(0, .pv (.slice (List.map PV.str l1))), (6, .vec 0 (List.length ([] : List Str))), (11, .pv (.slice (List.map PV.str idx2))), (12, .pv (.int .i64 (idx2.length : Int))), (13, .pv (.int .i64 0))]) ⟨rfl, rfl, rfl, rfl, rfl, trivial⟩) ?_
  refine AW.loopI (α := Nat × Int × (List Str)) (fun (_, i5, l6) => ⟨sl [(0, .pv (.slice (List.map PV.str l1))), (6, .vec 0 (List.length l6)), (11, .pv (.slice (List.map PV.str idx2))), (12, .pv (.int .i64 (idx2.length : Int))), (13, .pv (.int .i64 i5))], 38, [.row 9 1 (List.map PV.str l6) true]⟩) (fun x => iter (F19_b1 idx2 l1) x.1 x.2 = some (r3, r4)) (fun x => x.1) (BIG, (0, ([] : List Str))) h ?_
  clear h
  intro ⟨n26, i5, l6⟩ h
  replace h := iter_some h; obtain ⟨m9, rfl, h⟩ := h
  rw [F19_b1] at h
  try dsimp only at h
  show AW _ _ _ _ ⟨sl [(0, .pv (.slice (List.map PV.str l1))), (6, .vec 0 (List.length l6)), (11, .pv (.slice (List.map PV.str idx2))), (12, .pv (.int .i64 (idx2.length : Int))), (13, .pv (.int .i64 i5))], 38, [.row 9 1 (List.map PV.str l6) true]⟩
  refine AW.seq ?_
  refine AW.reg hS [(0, .pv (.slice (List.map PV.str l1))), (6, .vec 0 (List.length l6)), (11, .pv (.slice (List.map PV.str idx2))), (12, .pv (.int .i64 (idx2.length : Int))), (13, .pv (.int .i64 i5)), (14, .pv (.bool (decide (i5 < (idx2.length : Int)))))] [.row 9 1 (List.map PV.str l6) true] ?_ ?_
  · simp -implicitDefEqProofs only [RUNS, qindex, Nat.reduceAdd, Nat.reduceLeDiff, Nat.reduceSub, reduceIte, Nat.reduceEqDiff, Nat.reduceLT, reduceCtorEq, Nat.reduceMul, Nat.reduceBEq, Int.reduceEq, if_true, if_false, eq_self, ne_eq, env_bT, T_3, P29_eq, Var.pv_eq, P32_eq, GEnv.pv_eq, P41_eq, Redir.pv_eq, P152_eq, Cmd.pv_eq, P42_eq, Word.pv_eq, GValue.pv_eq, eqT_3]
  refine AW.seq ?_
  refine AW.cond (b := decide (i5 < (idx2.length : Int))) rfl (fun hb10 => ?_) (fun hb10 => ?_)
  · replace h := bif_t hb10 h
    refine AW.skip ?_
    refine AW.seq ?_
    refine AW.block ?_
    refine AW.seq ?_
    replace h := Option.bind_eq_some_iff.1 h; obtain ⟨w11, q12, h⟩ := h
    have f13 := lidx_f q12
    refine AW.reg hS [(0, .pv (.slice (List.map PV.str l1))), (6, .vec 0 (List.length l6)), (8, .pv (.str w11)), (11, .pv (.slice (List.map PV.str idx2))), (12, .pv (.int .i64 (idx2.length : Int))), (13, .pv (.int .i64 i5))] [.row 9 1 (List.map PV.str l6) true] ?_ ?_
    · simp -implicitDefEqProofs only [RUNS, qindex, Nat.reduceAdd, Nat.reduceLeDiff, Nat.reduceSub, reduceIte, Nat.reduceEqDiff, Nat.reduceLT, reduceCtorEq, Nat.reduceMul, Nat.reduceBEq, Int.reduceEq, if_true, if_false, eq_self, ne_eq, env_bT, T_9, T_29, P29_eq, Var.pv_eq, P32_eq, GEnv.pv_eq, P41_eq, Redir.pv_eq, P152_eq, Cmd.pv_eq, P42_eq, Word.pv_eq, GValue.pv_eq, f13.1, f13.2.1]
    refine AW.seq ?_
    replace h := Option.bind_eq_some_iff.1 h; obtain ⟨⟨r14, r15⟩, q16, h⟩ := h
    dsimp only at h
    have f17 := c_F37 w11 r14 r15 q16
    try dsimp only at f17
    refine AW.reg hS [(0, .pv (.slice (List.map PV.str l1))), (6, .vec 0 (List.length l6)), (9, .pv (.int .i64 r14)), (10, .pv (.bool r15)), (11, .pv (.slice (List.map PV.str idx2))), (12, .pv (.int .i64 (idx2.length : Int))), (13, .pv (.int .i64 i5))] [.row 9 1 (List.map PV.str l6) true] ?_ ?_
    · simp -implicitDefEqProofs only [RUNS, qindex, Nat.reduceAdd, Nat.reduceLeDiff, Nat.reduceSub, reduceIte, Nat.reduceEqDiff, Nat.reduceLT, reduceCtorEq, Nat.reduceMul, Nat.reduceBEq, Int.reduceEq, if_true, if_false, eq_self, ne_eq, env_bT, T_9, P29_eq, Var.pv_eq, P32_eq, GEnv.pv_eq, P41_eq, Redir.pv_eq, P152_eq, Cmd.pv_eq, P42_eq, Word.pv_eq, GValue.pv_eq, pf_37, f17]
    refine AW.seq ?_
    refine AW.seq ?_
    refine AW.reg hS [(0, .pv (.slice (List.map PV.str l1))), (6, .vec 0 (List.length l6)), (9, .pv (.int .i64 r14)), (11, .pv (.slice (List.map PV.str idx2))), (12, .pv (.int .i64 (idx2.length : Int))), (13, .pv (.int .i64 i5)), (23, .pv (.bool (!r15)))] [.row 9 1 (List.map PV.str l6) true] ?_ ?_
    · simp -implicitDefEqProofs only [RUNS, qindex, Nat.reduceAdd, Nat.reduceLeDiff, Nat.reduceSub, reduceIte, Nat.reduceEqDiff, Nat.reduceLT, reduceCtorEq, Nat.reduceMul, Nat.reduceBEq, Int.reduceEq, if_true, if_false, eq_self, ne_eq, env_bT, P29_eq, Var.pv_eq, P32_eq, GEnv.pv_eq, P41_eq, Redir.pv_eq, P152_eq, Cmd.pv_eq, P42_eq, Word.pv_eq, GValue.pv_eq]
    refine AW.cond (b := !r15) rfl (fun hb18 => ?_) (fun hb18 => ?_)
    · replace h := bif_t hb18 h
      refine AW.seq ?_
      refine AW.reg hS [(4, .nils), (5, .pv (.int .i64 5))] [.row 9 1 (List.map PV.str l6) true] ?_ ?_
      · simp -implicitDefEqProofs only [RUNS, qindex, Nat.reduceAdd, Nat.reduceLeDiff, Nat.reduceSub, reduceIte, Nat.reduceEqDiff, Nat.reduceLT, reduceCtorEq, Nat.reduceMul, Nat.reduceBEq, Int.reduceEq, if_true, if_false, eq_self, ne_eq, env_bT, P29_eq, Var.pv_eq, P32_eq, GEnv.pv_eq, P41_eq, Redir.pv_eq, P152_eq, Cmd.pv_eq, P42_eq, Word.pv_eq, GValue.pv_eq]
      refine AW.ret ?_
      cases h
      show finish _ _ _ _ _ = _
      first | rfl | (simp [finish, resOf, renArgs, toPV, selObjs, sl])
    · replace h := bif_f hb18 h
      refine AW.skip ?_
      refine AW.seq ?_
      refine AW.reg hS [(0, .pv (.slice (List.map PV.str l1))), (6, .vec 0 (List.length l6)), (9, .pv (.int .i64 r14)), (11, .pv (.slice (List.map PV.str idx2))), (12, .pv (.int .i64 (idx2.length : Int))), (13, .pv (.int .i64 i5)), (27, .pv (.bool (decide (r14 ≤ (l1.length : Int)))))] [.row 9 1 (List.map PV.str l6) true] ?_ ?_
      · simp -implicitDefEqProofs only [RUNS, qindex, Nat.reduceAdd, Nat.reduceLeDiff, Nat.reduceSub, reduceIte, Nat.reduceEqDiff, Nat.reduceLT, reduceCtorEq, Nat.reduceMul, Nat.reduceBEq, Int.reduceEq, if_true, if_false, eq_self, ne_eq, env_bT, T_3, T_9, T_29, P29_eq, Var.pv_eq, P32_eq, GEnv.pv_eq, P41_eq, Redir.pv_eq, P152_eq, Cmd.pv_eq, P42_eq, Word.pv_eq, GValue.pv_eq, eqT_3]
      refine AW.cond (b := decide (r14 ≤ (l1.length : Int))) rfl (fun hb19 => ?_) (fun hb19 => ?_)
      · replace h := bif_t hb19 h
        replace h := Option.bind_eq_some_iff.1 h; obtain ⟨w20, q21, h⟩ := h
        have f22 := lidx_f q21
        replace h := Option.bind_eq_some_iff.1 h; obtain ⟨out23, q24, h⟩ := h
        have f25 := appO_f q24
        try simp only [List.length_cons, List.length_nil, Nat.zero_add, Nat.reduceAdd, Nat.reduceLeDiff, Nat.add_zero, Nat.reduceMul] at f25
        refine AW.reg hS [(0, .pv (.slice (List.map PV.str l1))), (6, .vec 0 (List.length out23)), (11, .pv (.slice (List.map PV.str idx2))), (12, .pv (.int .i64 (idx2.length : Int))), (13, .pv (.int .i64 i5))] [.row 9 1 (List.map PV.str out23) true] ?_ ?_
        · simp -implicitDefEqProofs only [RUNS, qindex, Nat.reduceAdd, Nat.reduceLeDiff, Nat.reduceSub, reduceIte, Nat.reduceEqDiff, Nat.reduceLT, reduceCtorEq, Nat.reduceMul, Nat.reduceBEq, Int.reduceEq, if_true, if_false, eq_self, ne_eq, env_bT, T_3, T_9, T_29, P29_eq, Var.pv_eq, P32_eq, GEnv.pv_eq, P41_eq, Redir.pv_eq, P152_eq, Cmd.pv_eq, P42_eq, Word.pv_eq, GValue.pv_eq, eqT_3, f22.1, f22.2.1, ownT_29, f25.1, f25.2, str_all] <;> (try simp only [List.length_take, List.length_drop, List.length_map])
        clear f25
        refine AW.reg hS [(0, .pv (.slice (List.map PV.str l1))), (6, .vec 0 (List.length out23)), (11, .pv (.slice (List.map PV.str idx2))), (12, .pv (.int .i64 (idx2.length : Int))), (13, .pv (.int .i64 (IntKind.wrap .i64 (i5 + 1))))] [.row 9 1 (List.map PV.str out23) true] ?_ ?_
        · simp -implicitDefEqProofs only [RUNS, qindex, Nat.reduceAdd, Nat.reduceLeDiff, Nat.reduceSub, reduceIte, Nat.reduceEqDiff, Nat.reduceLT, reduceCtorEq, Nat.reduceMul, Nat.reduceBEq, Int.reduceEq, if_true, if_false, eq_self, ne_eq, env_bT, T_3, P29_eq, Var.pv_eq, P32_eq, GEnv.pv_eq, P41_eq, Redir.pv_eq, P152_eq, Cmd.pv_eq, P42_eq, Word.pv_eq, GValue.pv_eq, eqT_3]
        exact ⟨(m9, (IntKind.wrap .i64 (i5 + 1), out23)), h, (Weak.norm (m := 1) (Nat.le_of_ble_eq_true rfl) ⟨rfl, rfl, rfl, rfl, rfl, trivial⟩ rfl rfl rfl), Nat.lt_succ_self _⟩
      · replace h := bif_f hb19 h
        refine AW.skip ?_
        refine AW.reg hS [(0, .pv (.slice (List.map PV.str l1))), (6, .vec 0 (List.length l6)), (11, .pv (.slice (List.map PV.str idx2))), (12, .pv (.int .i64 (idx2.length : Int))), (13, .pv (.int .i64 (IntKind.wrap .i64 (i5 + 1))))] [.row 9 1 (List.map PV.str l6) true] ?_ ?_
        · simp -implicitDefEqProofs only [RUNS, qindex, Nat.reduceAdd, Nat.reduceLeDiff, Nat.reduceSub, reduceIte, Nat.reduceEqDiff, Nat.reduceLT, reduceCtorEq, Nat.reduceMul, Nat.reduceBEq, Int.reduceEq, if_true, if_false, eq_self, ne_eq, env_bT, T_3, P29_eq, Var.pv_eq, P32_eq, GEnv.pv_eq, P41_eq, Redir.pv_eq, P152_eq, Cmd.pv_eq, P42_eq, Word.pv_eq, GValue.pv_eq, eqT_3]
        exact ⟨(m9, (IntKind.wrap .i64 (i5 + 1), l6)), h, (Weak.norm (m := 1) (Nat.le_of_ble_eq_true rfl) ⟨rfl, rfl, rfl, rfl, rfl, trivial⟩ rfl rfl rfl), Nat.lt_succ_self _⟩
  · replace h := bif_f hb10 h
    refine AW.exit ?_
    refine AW.seq ?_
    refine AW.reg hS [(4, .vec 0 (List.length l6)), (5, .pv (.int .i64 0))] [.row 9 1 (List.map PV.str l6) true] ?_ ?_
    · simp -implicitDefEqProofs only [RUNS, qindex, Nat.reduceAdd, Nat.reduceLeDiff, Nat.reduceSub, reduceIte, Nat.reduceEqDiff, Nat.reduceLT, reduceCtorEq, Nat.reduceMul, Nat.reduceBEq, Int.reduceEq, if_true, if_false, eq_self, ne_eq, env_bT, P29_eq, Var.pv_eq, P32_eq, GEnv.pv_eq, P41_eq, Redir.pv_eq, P152_eq, Cmd.pv_eq, P42_eq, Word.pv_eq, GValue.pv_eq]
    refine AW.ret ?_
    cases h
    show finish _ _ _ _ _ = _
    first | rfl | (simp [finish, resOf, renArgs, toPV, selObjs, sl])

set_option maxHeartbeats 4000000 in
theorem g_F51 {O : Orc} (hS : Sound env O) (hpf : O.pf = pfn) (w36 : (List GEnv) → Int → Word → Option ((List GValue) × Int)) (c_w36 : C_w36 w36 O) (c_F33 : C_F33 O) (l1 : List GEnv) (group2 : Int) (words3 : List Word) (r4 : List GValue) (r5 : Int) (h : F51 w36 l1 group2 words3 = some (r4, r5)) : Good env 51 [.pv (.slice (List.map GEnv.pv l1)), .pv (.int .i64 group2), .pv (.slice (List.map Word.pv words3))] [] [.pv (.slice (List.map GValue.pv r4)), .pv (.int .i64 r5)] [] := by
  have pf_33 : O.pf 33 = true := by rw [hpf]; rfl
  have pf_36 : O.pf 36 = true := by rw [hpf]; rfl
  refine Good.start (fn := Tryz.f51) (N := 45) fn_51 rfl rfl (by simp) [] _ rfl rfl ?_
  rw [F51] at h
  refine AW.seq ?_
  refine AW.reg hS [(0, .pv (.slice (List.map GEnv.pv l1))), (1, .pv (.int .i64 group2)), (2, .pv (.slice (List.map Word.pv words3)))] [] ?_ ?_
  · simp -implicitDefEqProofs only [RUNS, qindex, Nat.reduceAdd, Nat.reduceLeDiff, Nat.reduceSub, reduceIte, Nat.reduceEqDiff, Nat.reduceLT, reduceCtorEq, Nat.reduceMul, Nat.reduceBEq, Int.reduceEq, if_true, if_false, eq_self, ne_eq, env_bT, P29_eq, Var.pv_eq, P32_eq, GEnv.pv_eq, P41_eq, Redir.pv_eq, P152_eq, Cmd.pv_eq, P42_eq, Word.pv_eq, GValue.pv_eq]
  refine AW.seq ?_
  refine AW.reg hS [(0, .pv (.slice (List.map GEnv.pv l1))), (1, .pv (.int .i64 group2)), (2, .pv (.slice (List.map Word.pv words3))), (8, .nils)] [] ?_ ?_
  · simp -implicitDefEqProofs only [RUNS, qindex, Nat.reduceAdd, Nat.reduceLeDiff, Nat.reduceSub, reduceIte, Nat.reduceEqDiff, Nat.reduceLT, reduceCtorEq, Nat.reduceMul, Nat.reduceBEq, Int.reduceEq, if_true, if_false, eq_self, ne_eq, env_bT, P29_eq, Var.pv_eq, P32_eq, GEnv.pv_eq, P41_eq, Redir.pv_eq, P152_eq, Cmd.pv_eq, P42_eq, Word.pv_eq, GValue.pv_eq]
  refine AW.weak (Weak.nilPV 8 rfl) ?_
  refine AW.weak (Weak.slots (L := [(0, .pv (.slice (List.map GEnv.pv l1))), (1, .pv (.int .i64 group2)), (2, .pv (.slice (List.map Word.pv words3))), (8, .pv (.slice (List.map GValue.pv ([] : List GValue))))]) ⟨rfl, rfl, rfl, rfl, trivial⟩) ?_
  refine AW.seq ?_
  refine AW.seq ?_
  refine AW.reg hS [(0, .pv (.slice (List.map GEnv.pv l1))), (1, .pv (.int .i64 group2)), (8, .pv (.slice (List.map GValue.pv ([] : List GValue)))), (13, .pv (.slice (List.map Word.pv words3))), (14, .pv (.int .i64 (words3.length : Int))), (15, .pv (.int .i64 0))] [] ?_ ?_
  · simp -implicitDefEqProofs only [RUNS, qindex, Nat.reduceAdd, Nat.reduceLeDiff, Nat.reduceSub, reduceIte, Nat.reduceEqDiff, Nat.reduceLT, reduceCtorEq, Nat.reduceMul, Nat.reduceBEq, Int.reduceEq, if_true, if_false, eq_self, ne_eq, env_bT, T_41, T_44, P29_eq, Var.pv_eq, P32_eq, GEnv.pv_eq, P41_eq, Redir.pv_eq, P152_eq, Cmd.pv_eq, P42_eq, Word.pv_eq, GValue.pv_eq]
  refine AW.block ?_
  refine AW.weak (Weak.slots (L := [(0, .pv (.slice (List.map GEnv.pv l1))), (1, .pv (.int .i64 group2)), (8, .pv (.slice (List.map GValue.pv ([] : List GValue)))), (13, .pv (.slice (List.map Word.pv words3))), (14, .pv (.int .i64 (words3.length : Int))), (15, .pv (.int .i64 0))]) ⟨rfl, rfl, rfl, rfl, rfl, rfl, trivial⟩) ?_
  refine AW.loopI (α := Nat × (List GValue) × Int) (fun (_, out6, i7) => ⟨sl [(0, .pv (.slice (List.map GEnv.pv l1))), (1, .pv (.int .i64 group2)), (8, .pv (.slice (List.map GValue.pv out6))), (13, .pv (.slice (List.map Word.pv words3))), (14, .pv (.int .i64 (words3.length : Int))), (15, .pv (.int .i64 i7))], 45, []⟩) (fun x => iter (F51_b2 words3 w36 l1 group2) x.1 x.2 = some (r4, r5)) (fun x => x.1) (BIG, (([] : List GValue), 0)) h ?_
  clear h
  intro ⟨n27, out6, i7⟩ h
  replace h := iter_some h; obtain ⟨m10, rfl, h⟩ := h
  rw [F51_b2] at h
  try dsimp only at h
  show AW _ _ _ _ ⟨sl [(0, .pv (.slice (List.map GEnv.pv l1))), (1, .pv (.int .i64 group2)), (8, .pv (.slice (List.map GValue.pv out6))), (13, .pv (.slice (List.map Word.pv words3))), (14, .pv (.int .i64 (words3.length : Int))), (15, .pv (.int .i64 i7))], 45, []⟩
  refine AW.seq ?_
  refine AW.reg hS [(0, .pv (.slice (List.map GEnv.pv l1))), (1, .pv (.int .i64 group2)), (8, .pv (.slice (List.map GValue.pv out6))), (13, .pv (.slice (List.map Word.pv words3))), (14, .pv (.int .i64 (words3.length : Int))), (15, .pv (.int .i64 i7)), (16, .pv (.bool (decide (i7 < (words3.length : Int)))))] [] ?_ ?_
  · simp -implicitDefEqProofs only [RUNS, qindex, Nat.reduceAdd, Nat.reduceLeDiff, Nat.reduceSub, reduceIte, Nat.reduceEqDiff, Nat.reduceLT, reduceCtorEq, Nat.reduceMul, Nat.reduceBEq, Int.reduceEq, if_true, if_false, eq_self, ne_eq, env_bT, T_3, P29_eq, Var.pv_eq, P32_eq, GEnv.pv_eq, P41_eq, Redir.pv_eq, P152_eq, Cmd.pv_eq, P42_eq, Word.pv_eq, GValue.pv_eq, eqT_3]
  refine AW.seq ?_
  refine AW.cond (b := decide (i7 < (words3.length : Int))) rfl (fun hb11 => ?_) (fun hb11 => ?_)
  · replace h := bif_t hb11 h
    refine AW.skip ?_
    refine AW.seq ?_
    refine AW.block ?_
    refine AW.seq ?_
    replace h := Option.bind_eq_some_iff.1 h; obtain ⟨u12, q13, h⟩ := h
    have f14 := lidx_f q13
    refine AW.reg hS [(0, .pv (.slice (List.map GEnv.pv l1))), (1, .pv (.int .i64 group2)), (8, .pv (.slice (List.map GValue.pv out6))), (9, .pv (.int .i64 i7)), (10, .ref 0 0), (13, .pv (.slice (List.map Word.pv words3))), (14, .pv (.int .i64 (words3.length : Int))), (15, .pv (.int .i64 i7))] [.var [.pv (.int .i64 u12.kind_), .pv (.str u12.text_), .pv (.str u12.quoted_), .pv (.slice (List.map Word.pv u12.words_)), .pv (.slice (List.map Cmd.pv u12.cmd_))]] ?_ ?_
    · simp -implicitDefEqProofs only [RUNS, qindex, Nat.reduceAdd, Nat.reduceLeDiff, Nat.reduceSub, reduceIte, Nat.reduceEqDiff, Nat.reduceLT, reduceCtorEq, Nat.reduceMul, Nat.reduceBEq, Int.reduceEq, if_true, if_false, eq_self, ne_eq, env_bT, T_41, T_44, P29_eq, Var.pv_eq, P32_eq, GEnv.pv_eq, P41_eq, Redir.pv_eq, P152_eq, Cmd.pv_eq, P42_eq, Word.pv_eq, GValue.pv_eq, f14.1, f14.2.1]
    refine AW.seq ?_
    replace h := Option.bind_eq_some_iff.1 h; obtain ⟨⟨r15, r16⟩, q17, h⟩ := h
    dsimp only at h
    have f18 := c_w36 l1 group2 u12 r15 r16 q17
    try dsimp only at f18
    refine AW.reg hS [(0, .pv (.slice (List.map GEnv.pv l1))), (1, .pv (.int .i64 group2)), (8, .pv (.slice (List.map GValue.pv out6))), (9, .pv (.int .i64 i7)), (11, .pv (.slice (List.map GValue.pv r15))), (12, .pv (.int .i64 r16)), (13, .pv (.slice (List.map Word.pv words3))), (14, .pv (.int .i64 (words3.length : Int))), (15, .pv (.int .i64 i7))] [.var [.pv (.int .i64 u12.kind_), .pv (.str u12.text_), .pv (.str u12.quoted_), .pv (.slice (List.map Word.pv u12.words_)), .pv (.slice (List.map Cmd.pv u12.cmd_))]] ?_ ?_
    · simp -implicitDefEqProofs only [RUNS, qindex, Nat.reduceAdd, Nat.reduceLeDiff, Nat.reduceSub, reduceIte, Nat.reduceEqDiff, Nat.reduceLT, reduceCtorEq, Nat.reduceMul, Nat.reduceBEq, Int.reduceEq, if_true, if_false, eq_self, ne_eq, env_bT, T_3, T_22, T_34, T_44, P29_eq, Var.pv_eq, P32_eq, GEnv.pv_eq, P41_eq, Redir.pv_eq, P152_eq, Cmd.pv_eq, P42_eq, Word.pv_eq, GValue.pv_eq, pf_36, f18]
    refine AW.seqJ (α := (List GValue) × Int) (fun (v19, e20) => ⟨sl [(0, .pv (.slice (List.map GEnv.pv l1))), (1, .pv (.int .i64 group2)), (11, .pv (.slice (List.map GValue.pv v19))), (12, .pv (.int .i64 e20)), (13, .pv (.slice (List.map Word.pv words3))), (14, .pv (.int .i64 (words3.length : Int))), (15, .pv (.int .i64 i7))], 45, [.var [.pv (.int .i64 u12.kind_), .pv (.str u12.text_), .pv (.str u12.quoted_), .pv (.slice (List.map Word.pv u12.words_)), .pv (.slice (List.map Cmd.pv u12.cmd_))]]⟩) (fun x => F51_j3 (iter (F51_b2 words3 w36 l1 group2) m10) i7 x = some (r4, r5)) ?_ ?_
    · intro ⟨v19, e20⟩ h
      rw [F51_j3] at h
      try dsimp only at h
      show AW _ _ _ _ ⟨sl [(0, .pv (.slice (List.map GEnv.pv l1))), (1, .pv (.int .i64 group2)), (11, .pv (.slice (List.map GValue.pv v19))), (12, .pv (.int .i64 e20)), (13, .pv (.slice (List.map Word.pv words3))), (14, .pv (.int .i64 (words3.length : Int))), (15, .pv (.int .i64 i7))], 45, [.var [.pv (.int .i64 u12.kind_), .pv (.str u12.text_), .pv (.str u12.quoted_), .pv (.slice (List.map Word.pv u12.words_)), .pv (.slice (List.map Cmd.pv u12.cmd_))]]⟩
      refine AW.seq ?_
      refine AW.seq ?_
      refine AW.reg hS [(0, .pv (.slice (List.map GEnv.pv l1))), (1, .pv (.int .i64 group2)), (11, .pv (.slice (List.map GValue.pv v19))), (12, .pv (.int .i64 e20)), (13, .pv (.slice (List.map Word.pv words3))), (14, .pv (.int .i64 (words3.length : Int))), (15, .pv (.int .i64 i7)), (40, .pv (.bool (!decide (e20 = 0))))] [.var [.pv (.int .i64 u12.kind_), .pv (.str u12.text_), .pv (.str u12.quoted_), .pv (.slice (List.map Word.pv u12.words_)), .pv (.slice (List.map Cmd.pv u12.cmd_))]] ?_ ?_
      · simp -implicitDefEqProofs only [RUNS, qindex, Nat.reduceAdd, Nat.reduceLeDiff, Nat.reduceSub, reduceIte, Nat.reduceEqDiff, Nat.reduceLT, reduceCtorEq, Nat.reduceMul, Nat.reduceBEq, Int.reduceEq, if_true, if_false, eq_self, ne_eq, env_bT, T_25, P29_eq, Var.pv_eq, P32_eq, GEnv.pv_eq, P41_eq, Redir.pv_eq, P152_eq, Cmd.pv_eq, P42_eq, Word.pv_eq, GValue.pv_eq, eqT_25]
      refine AW.cond (b := !decide (e20 = 0)) rfl (fun hb21 => ?_) (fun hb21 => ?_)
      · replace h := bif_t hb21 h
        refine AW.seq ?_
        refine AW.reg hS [(6, .nils), (7, .pv (.int .i64 e20))] [.var [.pv (.int .i64 u12.kind_), .pv (.str u12.text_), .pv (.str u12.quoted_), .pv (.slice (List.map Word.pv u12.words_)), .pv (.slice (List.map Cmd.pv u12.cmd_))]] ?_ ?_
        · simp -implicitDefEqProofs only [RUNS, qindex, Nat.reduceAdd, Nat.reduceLeDiff, Nat.reduceSub, reduceIte, Nat.reduceEqDiff, Nat.reduceLT, reduceCtorEq, Nat.reduceMul, Nat.reduceBEq, Int.reduceEq, if_true, if_false, eq_self, ne_eq, env_bT, P29_eq, Var.pv_eq, P32_eq, GEnv.pv_eq, P41_eq, Redir.pv_eq, P152_eq, Cmd.pv_eq, P42_eq, Word.pv_eq, GValue.pv_eq]
        refine AW.ret ?_
        cases h
        show finish _ _ _ _ _ = _
        first | rfl | (simp [finish, resOf, renArgs, toPV, selObjs, sl])
      · replace h := bif_f hb21 h
        refine AW.skip ?_
        refine AW.reg hS [(0, .pv (.slice (List.map GEnv.pv l1))), (1, .pv (.int .i64 group2)), (8, .pv (.slice (List.map GValue.pv v19))), (13, .pv (.slice (List.map Word.pv words3))), (14, .pv (.int .i64 (words3.length : Int))), (15, .pv (.int .i64 i7))] [.var [.pv (.int .i64 u12.kind_), .pv (.str u12.text_), .pv (.str u12.quoted_), .pv (.slice (List.map Word.pv u12.words_)), .pv (.slice (List.map Cmd.pv u12.cmd_))]] ?_ ?_
        · simp -implicitDefEqProofs only [RUNS, qindex, Nat.reduceAdd, Nat.reduceLeDiff, Nat.reduceSub, reduceIte, Nat.reduceEqDiff, Nat.reduceLT, reduceCtorEq, Nat.reduceMul, Nat.reduceBEq, Int.reduceEq, if_true, if_false, eq_self, ne_eq, env_bT, P29_eq, Var.pv_eq, P32_eq, GEnv.pv_eq, P41_eq, Redir.pv_eq, P152_eq, Cmd.pv_eq, P42_eq, Word.pv_eq, GValue.pv_eq]
        refine AW.reg hS [(0, .pv (.slice (List.map GEnv.pv l1))), (1, .pv (.int .i64 group2)), (8, .pv (.slice (List.map GValue.pv v19))), (13, .pv (.slice (List.map Word.pv words3))), (14, .pv (.int .i64 (words3.length : Int))), (15, .pv (.int .i64 (IntKind.wrap .i64 (i7 + 1))))] [.var [.pv (.int .i64 u12.kind_), .pv (.str u12.text_), .pv (.str u12.quoted_), .pv (.slice (List.map Word.pv u12.words_)), .pv (.slice (List.map Cmd.pv u12.cmd_))]] ?_ ?_
        · simp -implicitDefEqProofs only [RUNS, qindex, Nat.reduceAdd, Nat.reduceLeDiff, Nat.reduceSub, reduceIte, Nat.reduceEqDiff, Nat.reduceLT, reduceCtorEq, Nat.reduceMul, Nat.reduceBEq, Int.reduceEq, if_true, if_false, eq_self, ne_eq, env_bT, T_3, P29_eq, Var.pv_eq, P32_eq, GEnv.pv_eq, P41_eq, Redir.pv_eq, P152_eq, Cmd.pv_eq, P42_eq, Word.pv_eq, GValue.pv_eq, eqT_3]
        exact ⟨(m10, (v19, IntKind.wrap .i64 (i7 + 1))), h, (Weak.norm (m := 0) (Nat.le_of_ble_eq_true rfl) ⟨rfl, rfl, rfl, rfl, rfl, rfl, trivial⟩ rfl rfl rfl), Nat.lt_succ_self _⟩
    refine AW.seq ?_
    refine AW.reg hS [(0, .pv (.slice (List.map GEnv.pv l1))), (1, .pv (.int .i64 group2)), (8, .pv (.slice (List.map GValue.pv out6))), (11, .pv (.slice (List.map GValue.pv r15))), (12, .pv (.int .i64 r16)), (13, .pv (.slice (List.map Word.pv words3))), (14, .pv (.int .i64 (words3.length : Int))), (15, .pv (.int .i64 i7)), (32, .pv (.bool (decide (r16 = 0) && decide (0 < i7))))] [.var [.pv (.int .i64 u12.kind_), .pv (.str u12.text_), .pv (.str u12.quoted_), .pv (.slice (List.map Word.pv u12.words_)), .pv (.slice (List.map Cmd.pv u12.cmd_))]] ?_ ?_
    · clear h
      (simp -implicitDefEqProofs only [RUNS, qindex, Nat.reduceAdd, Nat.reduceLeDiff, Nat.reduceSub, reduceIte, Nat.reduceEqDiff, Nat.reduceLT, reduceCtorEq, Nat.reduceMul, Nat.reduceBEq, Int.reduceEq, if_true, if_false, eq_self, ne_eq, env_bT, T_3, T_25, P29_eq, Var.pv_eq, P32_eq, GEnv.pv_eq, P41_eq, Redir.pv_eq, P152_eq, Cmd.pv_eq, P42_eq, Word.pv_eq, GValue.pv_eq, eqT_25, eqT_3]); repeat' (split <;> rename_i hb <;> (try simp only [HBS, ge_iff_le, gt_iff_lt] at hb) <;> simp -implicitDefEqProofs only [RUNS, qindex, Nat.reduceAdd, Nat.reduceLeDiff, Nat.reduceSub, reduceIte, Nat.reduceEqDiff, Nat.reduceLT, reduceCtorEq, Nat.reduceMul, Nat.reduceBEq, Int.reduceEq, if_true, if_false, eq_self, ne_eq, env_bT, T_3, T_25, P29_eq, Var.pv_eq, P32_eq, GEnv.pv_eq, P41_eq, Redir.pv_eq, P152_eq, Cmd.pv_eq, P42_eq, Word.pv_eq, GValue.pv_eq, eqT_25, eqT_3, *, decide_true, decide_false, Decidable.not_not, not_false_eq_true, not_true_eq_false])
      all_goals (first | (simp only [BOOLS]; done) | (simp [*]; done) | ((try simp only [CLOS, beq_iff_eq, bne_iff_ne, ne_eq] at *) <;> omega) | (simp_all; done) | (simp_all <;> omega))
    refine AW.cond (b := (decide (r16 = 0) && decide (0 < i7))) rfl (fun hb22 => ?_) (fun hb22 => ?_)
    · replace h := bif_t hb22 h
      replace h := Option.bind_eq_some_iff.1 h; obtain ⟨⟨r23, r24⟩, q25, h⟩ := h
      dsimp only at h
      have f26 := c_F33 out6 r15 r23 r24 q25
      try dsimp only at f26
      refine AW.reg hS [(0, .pv (.slice (List.map GEnv.pv l1))), (1, .pv (.int .i64 group2)), (11, .pv (.slice (List.map GValue.pv r23))), (12, .pv (.int .i64 r24)), (13, .pv (.slice (List.map Word.pv words3))), (14, .pv (.int .i64 (words3.length : Int))), (15, .pv (.int .i64 i7))] [.var [.pv (.int .i64 u12.kind_), .pv (.str u12.text_), .pv (.str u12.quoted_), .pv (.slice (List.map Word.pv u12.words_)), .pv (.slice (List.map Cmd.pv u12.cmd_))]] ?_ ?_
      · simp -implicitDefEqProofs only [RUNS, qindex, Nat.reduceAdd, Nat.reduceLeDiff, Nat.reduceSub, reduceIte, Nat.reduceEqDiff, Nat.reduceLT, reduceCtorEq, Nat.reduceMul, Nat.reduceBEq, Int.reduceEq, if_true, if_false, eq_self, ne_eq, env_bT, T_69, T_76, P29_eq, Var.pv_eq, P32_eq, GEnv.pv_eq, P41_eq, Redir.pv_eq, P152_eq, Cmd.pv_eq, P42_eq, Word.pv_eq, GValue.pv_eq, pf_33, f26]
      exact ⟨(r23, r24), h, (Weak.norm (m := 1) (Nat.le_of_ble_eq_true rfl) ⟨rfl, rfl, rfl, rfl, rfl, rfl, rfl, trivial⟩ rfl rfl rfl)⟩
    · replace h := bif_f hb22 h
      refine AW.skip ?_
      exact ⟨(r15, r16), h, (Weak.norm (m := 1) (Nat.le_of_ble_eq_true rfl) ⟨rfl, rfl, rfl, rfl, rfl, rfl, rfl, trivial⟩ rfl rfl rfl)⟩
  · replace h := bif_f hb11 h
    refine AW.exit ?_
    refine AW.seq ?_
    refine AW.reg hS [(6, .pv (.slice (List.map GValue.pv out6))), (7, .pv (.int .i64 0))] [] ?_ ?_
    · simp -implicitDefEqProofs only [RUNS, qindex, Nat.reduceAdd, Nat.reduceLeDiff, Nat.reduceSub, reduceIte, Nat.reduceEqDiff, Nat.reduceLT, reduceCtorEq, Nat.reduceMul, Nat.reduceBEq, Int.reduceEq, if_true, if_false, eq_self, ne_eq, env_bT, P29_eq, Var.pv_eq, P32_eq, GEnv.pv_eq, P41_eq, Redir.pv_eq, P152_eq, Cmd.pv_eq, P42_eq, Word.pv_eq, GValue.pv_eq]
    refine AW.ret ?_
    cases h
    show finish _ _ _ _ _ = _
    first | rfl | (simp [finish, resOf, renArgs, toPV, selObjs, sl])

set_option maxHeartbeats 4000000 in
theorem g_F36 {O : Orc} (hS : Sound env O) (hpf : O.pf = pfn) (w36 : (List GEnv) → Int → Word → Option ((List GValue) × Int)) (c_F26 : C_F26 O) (c_F48 : C_F48 O) (c_L_Itoa : C_L_Itoa O) (c_F50 : C_F50 w36 O) (c_F35 : C_F35 O) (c_F19 : C_F19 O) (c_F51 : C_F51 w36 O) (l1 : List GEnv) (group2 : Int) (w3 : Word) (r4 : List GValue) (r5 : Int) (h : F36 w36 l1 group2 w3 = some (r4, r5)) : Good env 36 [.pv (.slice (List.map GEnv.pv l1)), .pv (.int .i64 group2), .pv (.agg [.int .i64 w3.kind_, .str w3.text_, .str w3.quoted_, .slice (List.map Word.pv w3.words_), .slice (List.map Cmd.pv w3.cmd_)])] [] [.pv (.slice (List.map GValue.pv r4)), .pv (.int .i64 r5)] [] := by
  have pf_19 : O.pf 19 = true := by rw [hpf]; rfl
  have pf_26 : O.pf 26 = true := by rw [hpf]; rfl
  have pf_35 : O.pf 35 = true := by rw [hpf]; rfl
  have pf_48 : O.pf 48 = true := by rw [hpf]; rfl
  have pf_49 : O.pf 49 = true := by rw [hpf]; rfl
  have pf_50 : O.pf 50 = true := by rw [hpf]; rfl
  have pf_51 : O.pf 51 = true := by rw [hpf]; rfl
  refine Good.start (fn := Tryz.f36) (N := 92) fn_36 rfl rfl (by simp) [] _ rfl rfl ?_
  rw [F36] at h
  refine AW.seq ?_
  refine AW.reg hS [(0, .pv (.slice (List.map GEnv.pv l1))), (1, .pv (.int .i64 group2)), (5, .ref 0 0)] [.var [.pv (.int .i64 w3.kind_), .pv (.str w3.text_), .pv (.str w3.quoted_), .pv (.slice (List.map Word.pv w3.words_)), .pv (.slice (List.map Cmd.pv w3.cmd_))]] ?_ ?_
  · simp -implicitDefEqProofs only [RUNS, qindex, Nat.reduceAdd, Nat.reduceLeDiff, Nat.reduceSub, reduceIte, Nat.reduceEqDiff, Nat.reduceLT, reduceCtorEq, Nat.reduceMul, Nat.reduceBEq, Int.reduceEq, if_true, if_false, eq_self, ne_eq, env_bT, T_44, P29_eq, Var.pv_eq, P32_eq, GEnv.pv_eq, P41_eq, Redir.pv_eq, P152_eq, Cmd.pv_eq, P42_eq, Word.pv_eq, GValue.pv_eq]
  refine AW.seq ?_
  refine AW.seq ?_
  refine AW.reg hS [(0, .pv (.slice (List.map GEnv.pv l1))), (1, .pv (.int .i64 group2)), (5, .ref 0 0), (12, .pv (.int .i64 w3.kind_))] [.var [.pv (.int .i64 w3.kind_), .pv (.str w3.text_), .pv (.str w3.quoted_), .pv (.slice (List.map Word.pv w3.words_)), .pv (.slice (List.map Cmd.pv w3.cmd_))]] ?_ ?_
  · simp -implicitDefEqProofs only [RUNS, qindex, Nat.reduceAdd, Nat.reduceLeDiff, Nat.reduceSub, reduceIte, Nat.reduceEqDiff, Nat.reduceLT, reduceCtorEq, Nat.reduceMul, Nat.reduceBEq, Int.reduceEq, if_true, if_false, eq_self, ne_eq, env_bT, T_3, T_44, P29_eq, Var.pv_eq, P32_eq, GEnv.pv_eq, P41_eq, Redir.pv_eq, P152_eq, Cmd.pv_eq, P42_eq, Word.pv_eq, GValue.pv_eq]
  refine AW.block ?_
  refine AW.seq ?_
  refine AW.reg hS [(0, .pv (.slice (List.map GEnv.pv l1))), (1, .pv (.int .i64 group2)), (5, .ref 0 0), (12, .pv (.int .i64 w3.kind_)), (13, .pv (.bool (decide (w3.kind_ = 1))))] [.var [.pv (.int .i64 w3.kind_), .pv (.str w3.text_), .pv (.str w3.quoted_), .pv (.slice (List.map Word.pv w3.words_)), .pv (.slice (List.map Cmd.pv w3.cmd_))]] ?_ ?_
  · simp -implicitDefEqProofs only [RUNS, qindex, Nat.reduceAdd, Nat.reduceLeDiff, Nat.reduceSub, reduceIte, Nat.reduceEqDiff, Nat.reduceLT, reduceCtorEq, Nat.reduceMul, Nat.reduceBEq, Int.reduceEq, if_true, if_false, eq_self, ne_eq, env_bT, T_3, P29_eq, Var.pv_eq, P32_eq, GEnv.pv_eq, P41_eq, Redir.pv_eq, P152_eq, Cmd.pv_eq, P42_eq, Word.pv_eq, GValue.pv_eq, eqT_3]
  refine AW.cond (b := decide (w3.kind_ = 1)) rfl (fun hb6 => ?_) (fun hb6 => ?_)
  · replace h := bif_t hb6 h
    refine AW.seq ?_
    refine AW.seq ?_
    refine AW.reg hS [(5, .ref 0 0), (21, .pv (.bool (!decide ((w3.text_.length : Int) = (w3.quoted_.length : Int)))))] [.var [.pv (.int .i64 w3.kind_), .pv (.str w3.text_), .pv (.str w3.quoted_), .pv (.slice (List.map Word.pv w3.words_)), .pv (.slice (List.map Cmd.pv w3.cmd_))]] ?_ ?_
    · simp -implicitDefEqProofs only [RUNS, qindex, Nat.reduceAdd, Nat.reduceLeDiff, Nat.reduceSub, reduceIte, Nat.reduceEqDiff, Nat.reduceLT, reduceCtorEq, Nat.reduceMul, Nat.reduceBEq, Int.reduceEq, if_true, if_false, eq_self, ne_eq, env_bT, T_3, T_9, T_44, P29_eq, Var.pv_eq, P32_eq, GEnv.pv_eq, P41_eq, Redir.pv_eq, P152_eq, Cmd.pv_eq, P42_eq, Word.pv_eq, GValue.pv_eq, eqT_3]
    refine AW.cond (b := !decide ((w3.text_.length : Int) = (w3.quoted_.length : Int))) rfl (fun hb7 => ?_) (fun hb7 => ?_)
    · replace h := bif_t hb7 h
      refine AW.seq ?_
      refine AW.reg hS [(6, .nils), (7, .pv (.int .i64 1))] [.var [.pv (.int .i64 w3.kind_), .pv (.str w3.text_), .pv (.str w3.quoted_), .pv (.slice (List.map Word.pv w3.words_)), .pv (.slice (List.map Cmd.pv w3.cmd_))]] ?_ ?_
      · simp -implicitDefEqProofs only [RUNS, qindex, Nat.reduceAdd, Nat.reduceLeDiff, Nat.reduceSub, reduceIte, Nat.reduceEqDiff, Nat.reduceLT, reduceCtorEq, Nat.reduceMul, Nat.reduceBEq, Int.reduceEq, if_true, if_false, eq_self, ne_eq, env_bT, P29_eq, Var.pv_eq, P32_eq, GEnv.pv_eq, P41_eq, Redir.pv_eq, P152_eq, Cmd.pv_eq, P42_eq, Word.pv_eq, GValue.pv_eq]
      refine AW.ret ?_
      cases h
      show finish _ _ _ _ _ = _
      first | rfl | (simp [finish, resOf, renArgs, toPV, selObjs, sl])
    · replace h := bif_f hb7 h
      refine AW.skip ?_
      refine AW.seq ?_
      refine AW.reg hS [(6, .full (List.map GValue.pv [GValue.mk w3.text_ w3.quoted_])), (7, .pv (.int .i64 0))] [.var [.pv (.int .i64 w3.kind_), .pv (.str w3.text_), .pv (.str w3.quoted_), .pv (.slice (List.map Word.pv w3.words_)), .pv (.slice (List.map Cmd.pv w3.cmd_))]] ?_ ?_
      · simp -implicitDefEqProofs only [RUNS, qindex, Nat.reduceAdd, Nat.reduceLeDiff, Nat.reduceSub, reduceIte, Nat.reduceEqDiff, Nat.reduceLT, reduceCtorEq, Nat.reduceMul, Nat.reduceBEq, Int.reduceEq, if_true, if_false, eq_self, ne_eq, env_bT, T_9, T_44, T_69, T_76, P29_eq, Var.pv_eq, P32_eq, GEnv.pv_eq, P41_eq, Redir.pv_eq, P152_eq, Cmd.pv_eq, P42_eq, Word.pv_eq, GValue.pv_eq, ownT_76, ownT_69]
      refine AW.ret ?_
      cases h
      show finish _ _ _ _ _ = _
      first | rfl | (simp [finish, resOf, renArgs, toPV, selObjs, sl])
  · replace h := bif_f hb6 h
    refine AW.seq ?_
    refine AW.reg hS [(0, .pv (.slice (List.map GEnv.pv l1))), (1, .pv (.int .i64 group2)), (5, .ref 0 0), (12, .pv (.int .i64 w3.kind_)), (28, .pv (.bool (decide (w3.kind_ = 2))))] [.var [.pv (.int .i64 w3.kind_), .pv (.str w3.text_), .pv (.str w3.quoted_), .pv (.slice (List.map Word.pv w3.words_)), .pv (.slice (List.map Cmd.pv w3.cmd_))]] ?_ ?_
    · simp -implicitDefEqProofs only [RUNS, qindex, Nat.reduceAdd, Nat.reduceLeDiff, Nat.reduceSub, reduceIte, Nat.reduceEqDiff, Nat.reduceLT, reduceCtorEq, Nat.reduceMul, Nat.reduceBEq, Int.reduceEq, if_true, if_false, eq_self, ne_eq, env_bT, T_3, P29_eq, Var.pv_eq, P32_eq, GEnv.pv_eq, P41_eq, Redir.pv_eq, P152_eq, Cmd.pv_eq, P42_eq, Word.pv_eq, GValue.pv_eq, eqT_3]
    refine AW.cond (b := decide (w3.kind_ = 2)) rfl (fun hb8 => ?_) (fun hb8 => ?_)
    · replace h := bif_t hb8 h
      refine AW.seq ?_
      replace h := Option.bind_eq_some_iff.1 h; obtain ⟨r9, q10, h⟩ := h
      have f11 := c_F26 l1 group2 w3.text_ r9 q10
      try dsimp only at f11
      replace h := Option.bind_eq_some_iff.1 h; obtain ⟨r12, q13, h⟩ := h
      have f14 := c_F48 r9 r12 q13
      try dsimp only at f14
      refine AW.reg hS [(6, .pv (.slice (List.map GValue.pv r12))), (7, .pv (.int .i64 0))] [.var [.pv (.int .i64 w3.kind_), .pv (.str w3.text_), .pv (.str w3.quoted_), .pv (.slice (List.map Word.pv w3.words_)), .pv (.slice (List.map Cmd.pv w3.cmd_))]] ?_ ?_
      · simp -implicitDefEqProofs only [RUNS, qindex, Nat.reduceAdd, Nat.reduceLeDiff, Nat.reduceSub, reduceIte, Nat.reduceEqDiff, Nat.reduceLT, reduceCtorEq, Nat.reduceMul, Nat.reduceBEq, Int.reduceEq, if_true, if_false, eq_self, ne_eq, env_bT, T_3, T_9, T_22, T_29, T_34, T_44, P29_eq, Var.pv_eq, P32_eq, GEnv.pv_eq, P41_eq, Redir.pv_eq, P152_eq, Cmd.pv_eq, P42_eq, Word.pv_eq, GValue.pv_eq, pf_26, f11, pf_48, f14]
      refine AW.ret ?_
      cases h
      show finish _ _ _ _ _ = _
      first | rfl | (simp [finish, resOf, renArgs, toPV, selObjs, sl])
    · replace h := bif_f hb8 h
      refine AW.seq ?_
      refine AW.reg hS [(0, .pv (.slice (List.map GEnv.pv l1))), (1, .pv (.int .i64 group2)), (5, .ref 0 0), (12, .pv (.int .i64 w3.kind_)), (36, .pv (.bool (decide (w3.kind_ = 3))))] [.var [.pv (.int .i64 w3.kind_), .pv (.str w3.text_), .pv (.str w3.quoted_), .pv (.slice (List.map Word.pv w3.words_)), .pv (.slice (List.map Cmd.pv w3.cmd_))]] ?_ ?_
      · simp -implicitDefEqProofs only [RUNS, qindex, Nat.reduceAdd, Nat.reduceLeDiff, Nat.reduceSub, reduceIte, Nat.reduceEqDiff, Nat.reduceLT, reduceCtorEq, Nat.reduceMul, Nat.reduceBEq, Int.reduceEq, if_true, if_false, eq_self, ne_eq, env_bT, T_3, P29_eq, Var.pv_eq, P32_eq, GEnv.pv_eq, P41_eq, Redir.pv_eq, P152_eq, Cmd.pv_eq, P42_eq, Word.pv_eq, GValue.pv_eq, eqT_3]
      refine AW.cond (b := decide (w3.kind_ = 3)) rfl (fun hb15 => ?_) (fun hb15 => ?_)
      · replace h := bif_t hb15 h
        refine AW.seq ?_
        replace h := Option.bind_eq_some_iff.1 h; obtain ⟨r16, q17, h⟩ := h
        have f18 := c_F26 l1 group2 w3.text_ r16 q17
        try dsimp only at f18
        replace h := Option.bind_eq_some_iff.1 h; obtain ⟨s19, q20, h⟩ := h
        have f21 := c_L_Itoa (r16.length : Int) s19 q20
        try dsimp only at f21
        replace h := Option.bind_eq_some_iff.1 h; obtain ⟨r22, q23, h⟩ := h
        have f24 := c_F48 [s19] r22 q23
        try dsimp only at f24
        try simp only [List.map_cons, List.map_nil, P29_eq, Var.pv_eq, P32_eq, GEnv.pv_eq, P41_eq, Redir.pv_eq, P152_eq, Cmd.pv_eq, P42_eq, Word.pv_eq, GValue.pv_eq] at f24
        refine AW.reg hS [(6, .pv (.slice (List.map GValue.pv r22))), (7, .pv (.int .i64 0))] [.var [.pv (.int .i64 w3.kind_), .pv (.str w3.text_), .pv (.str w3.quoted_), .pv (.slice (List.map Word.pv w3.words_)), .pv (.slice (List.map Cmd.pv w3.cmd_))]] ?_ ?_
        · simp -implicitDefEqProofs only [RUNS, qindex, Nat.reduceAdd, Nat.reduceLeDiff, Nat.reduceSub, reduceIte, Nat.reduceEqDiff, Nat.reduceLT, reduceCtorEq, Nat.reduceMul, Nat.reduceBEq, Int.reduceEq, if_true, if_false, eq_self, ne_eq, env_bT, T_3, T_9, T_22, T_29, T_34, T_44, P29_eq, Var.pv_eq, P32_eq, GEnv.pv_eq, P41_eq, Redir.pv_eq, P152_eq, Cmd.pv_eq, P42_eq, Word.pv_eq, GValue.pv_eq, pf_26, f18, pf_49, f21, ownT_29, pf_48, f24]
        refine AW.ret ?_
        cases h
        show finish _ _ _ _ _ = _
        first | rfl | (simp [finish, resOf, renArgs, toPV, selObjs, sl])
      · replace h := bif_f hb15 h
        refine AW.seq ?_
        refine AW.reg hS [(0, .pv (.slice (List.map GEnv.pv l1))), (1, .pv (.int .i64 group2)), (5, .ref 0 0), (12, .pv (.int .i64 w3.kind_)), (47, .pv (.bool (decide (w3.kind_ = 7))))] [.var [.pv (.int .i64 w3.kind_), .pv (.str w3.text_), .pv (.str w3.quoted_), .pv (.slice (List.map Word.pv w3.words_)), .pv (.slice (List.map Cmd.pv w3.cmd_))]] ?_ ?_
        · simp -implicitDefEqProofs only [RUNS, qindex, Nat.reduceAdd, Nat.reduceLeDiff, Nat.reduceSub, reduceIte, Nat.reduceEqDiff, Nat.reduceLT, reduceCtorEq, Nat.reduceMul, Nat.reduceBEq, Int.reduceEq, if_true, if_false, eq_self, ne_eq, env_bT, T_3, P29_eq, Var.pv_eq, P32_eq, GEnv.pv_eq, P41_eq, Redir.pv_eq, P152_eq, Cmd.pv_eq, P42_eq, Word.pv_eq, GValue.pv_eq, eqT_3]
        refine AW.cond (b := decide (w3.kind_ = 7)) rfl (fun hb25 => ?_) (fun hb25 => ?_)
        · replace h := bif_t hb25 h
          refine AW.seq ?_
          replace h := Option.bind_eq_some_iff.1 h; obtain ⟨⟨r26, r27⟩, q28, h⟩ := h
          dsimp only at h
          have f29 := c_F50 l1 group2 w3.words_ r26 r27 q28
          try dsimp only at f29
          refine AW.reg hS [(0, .pv (.slice (List.map GEnv.pv l1))), (1, .pv (.int .i64 group2)), (5, .ref 0 0), (8, .pv (.slice (List.map GValue.pv r26))), (9, .pv (.int .i64 r27))] [.var [.pv (.int .i64 w3.kind_), .pv (.str w3.text_), .pv (.str w3.quoted_), .pv (.slice (List.map Word.pv w3.words_)), .pv (.slice (List.map Cmd.pv w3.cmd_))]] ?_ ?_
          · simp -implicitDefEqProofs only [RUNS, qindex, Nat.reduceAdd, Nat.reduceLeDiff, Nat.reduceSub, reduceIte, Nat.reduceEqDiff, Nat.reduceLT, reduceCtorEq, Nat.reduceMul, Nat.reduceBEq, Int.reduceEq, if_true, if_false, eq_self, ne_eq, env_bT, T_3, T_22, T_34, T_41, T_44, P29_eq, Var.pv_eq, P32_eq, GEnv.pv_eq, P41_eq, Redir.pv_eq, P152_eq, Cmd.pv_eq, P42_eq, Word.pv_eq, GValue.pv_eq, pf_50, f29]
          refine AW.seq ?_
          refine AW.seq ?_
          refine AW.reg hS [(0, .pv (.slice (List.map GEnv.pv l1))), (1, .pv (.int .i64 group2)), (5, .ref 0 0), (8, .pv (.slice (List.map GValue.pv r26))), (9, .pv (.int .i64 r27)), (58, .pv (.bool (!decide (r27 = 0))))] [.var [.pv (.int .i64 w3.kind_), .pv (.str w3.text_), .pv (.str w3.quoted_), .pv (.slice (List.map Word.pv w3.words_)), .pv (.slice (List.map Cmd.pv w3.cmd_))]] ?_ ?_
          · simp -implicitDefEqProofs only [RUNS, qindex, Nat.reduceAdd, Nat.reduceLeDiff, Nat.reduceSub, reduceIte, Nat.reduceEqDiff, Nat.reduceLT, reduceCtorEq, Nat.reduceMul, Nat.reduceBEq, Int.reduceEq, if_true, if_false, eq_self, ne_eq, env_bT, T_25, P29_eq, Var.pv_eq, P32_eq, GEnv.pv_eq, P41_eq, Redir.pv_eq, P152_eq, Cmd.pv_eq, P42_eq, Word.pv_eq, GValue.pv_eq, eqT_25]
          refine AW.cond (b := !decide (r27 = 0)) rfl (fun hb30 => ?_) (fun hb30 => ?_)
          · replace h := bif_t hb30 h
            refine AW.seq ?_
            refine AW.reg hS [(6, .nils), (7, .pv (.int .i64 r27))] [.var [.pv (.int .i64 w3.kind_), .pv (.str w3.text_), .pv (.str w3.quoted_), .pv (.slice (List.map Word.pv w3.words_)), .pv (.slice (List.map Cmd.pv w3.cmd_))]] ?_ ?_
            · simp -implicitDefEqProofs only [RUNS, qindex, Nat.reduceAdd, Nat.reduceLeDiff, Nat.reduceSub, reduceIte, Nat.reduceEqDiff, Nat.reduceLT, reduceCtorEq, Nat.reduceMul, Nat.reduceBEq, Int.reduceEq, if_true, if_false, eq_self, ne_eq, env_bT, P29_eq, Var.pv_eq, P32_eq, GEnv.pv_eq, P41_eq, Redir.pv_eq, P152_eq, Cmd.pv_eq, P42_eq, Word.pv_eq, GValue.pv_eq]
            refine AW.ret ?_
            cases h
            show finish _ _ _ _ _ = _
            first | rfl | (simp [finish, resOf, renArgs, toPV, selObjs, sl])
          · replace h := bif_f hb30 h
            refine AW.skip ?_
            refine AW.seq ?_
            replace h := Option.bind_eq_some_iff.1 h; obtain ⟨r31, q32, h⟩ := h
            have f33 := c_F26 l1 group2 w3.text_ r31 q32
            try dsimp only at f33
            replace h := Option.bind_eq_some_iff.1 h; obtain ⟨r34, q35, h⟩ := h
            have f36 := c_F35 r26 r34 q35
            try dsimp only at f36
            replace h := Option.bind_eq_some_iff.1 h; obtain ⟨⟨r37, r38⟩, q39, h⟩ := h
            dsimp only at h
            have f40 := c_F19 r31 r34 r37 r38 q39
            try dsimp only at f40
            refine AW.reg hS [(9, .pv (.int .i64 r38)), (10, .pv (.slice (List.map PV.str r37)))] [.var [.pv (.int .i64 w3.kind_), .pv (.str w3.text_), .pv (.str w3.quoted_), .pv (.slice (List.map Word.pv w3.words_)), .pv (.slice (List.map Cmd.pv w3.cmd_))]] ?_ ?_
            · simp -implicitDefEqProofs only [RUNS, qindex, Nat.reduceAdd, Nat.reduceLeDiff, Nat.reduceSub, reduceIte, Nat.reduceEqDiff, Nat.reduceLT, reduceCtorEq, Nat.reduceMul, Nat.reduceBEq, Int.reduceEq, if_true, if_false, eq_self, ne_eq, env_bT, T_3, T_9, T_22, T_29, T_34, T_44, T_69, T_76, P29_eq, Var.pv_eq, P32_eq, GEnv.pv_eq, P41_eq, Redir.pv_eq, P152_eq, Cmd.pv_eq, P42_eq, Word.pv_eq, GValue.pv_eq, pf_26, f33, pf_35, f36, pf_19, f40]
            refine AW.seq ?_
            replace h := Option.bind_eq_some_iff.1 h; obtain ⟨r41, q42, h⟩ := h
            have f43 := c_F48 r37 r41 q42
            try dsimp only at f43
            refine AW.reg hS [(6, .pv (.slice (List.map GValue.pv r41))), (7, .pv (.int .i64 r38))] [.var [.pv (.int .i64 w3.kind_), .pv (.str w3.text_), .pv (.str w3.quoted_), .pv (.slice (List.map Word.pv w3.words_)), .pv (.slice (List.map Cmd.pv w3.cmd_))]] ?_ ?_
            · simp -implicitDefEqProofs only [RUNS, qindex, Nat.reduceAdd, Nat.reduceLeDiff, Nat.reduceSub, reduceIte, Nat.reduceEqDiff, Nat.reduceLT, reduceCtorEq, Nat.reduceMul, Nat.reduceBEq, Int.reduceEq, if_true, if_false, eq_self, ne_eq, env_bT, T_9, T_29, P29_eq, Var.pv_eq, P32_eq, GEnv.pv_eq, P41_eq, Redir.pv_eq, P152_eq, Cmd.pv_eq, P42_eq, Word.pv_eq, GValue.pv_eq, pf_48, f43]
            refine AW.ret ?_
            cases h
            show finish _ _ _ _ _ = _
            first | rfl | (simp [finish, resOf, renArgs, toPV, selObjs, sl])
        · replace h := bif_f hb25 h
          refine AW.seq ?_
          refine AW.reg hS [(0, .pv (.slice (List.map GEnv.pv l1))), (1, .pv (.int .i64 group2)), (5, .ref 0 0), (12, .pv (.int .i64 w3.kind_)), (74, .pv (.bool (decide (w3.kind_ = 4))))] [.var [.pv (.int .i64 w3.kind_), .pv (.str w3.text_), .pv (.str w3.quoted_), .pv (.slice (List.map Word.pv w3.words_)), .pv (.slice (List.map Cmd.pv w3.cmd_))]] ?_ ?_
          · simp -implicitDefEqProofs only [RUNS, qindex, Nat.reduceAdd, Nat.reduceLeDiff, Nat.reduceSub, reduceIte, Nat.reduceEqDiff, Nat.reduceLT, reduceCtorEq, Nat.reduceMul, Nat.reduceBEq, Int.reduceEq, if_true, if_false, eq_self, ne_eq, env_bT, T_3, P29_eq, Var.pv_eq, P32_eq, GEnv.pv_eq, P41_eq, Redir.pv_eq, P152_eq, Cmd.pv_eq, P42_eq, Word.pv_eq, GValue.pv_eq, eqT_3]
          refine AW.cond (b := decide (w3.kind_ = 4)) rfl (fun hb44 => ?_) (fun hb44 => ?_)
          · replace h := bif_t hb44 h
            refine AW.seq ?_
            replace h := Option.bind_eq_some_iff.1 h; obtain ⟨⟨r45, r46⟩, q47, h⟩ := h
            dsimp only at h
            have f48 := c_F51 l1 group2 w3.words_ r45 r46 q47
            try dsimp only at f48
            refine AW.reg hS [(6, .pv (.slice (List.map GValue.pv r45))), (7, .pv (.int .i64 r46))] [.var [.pv (.int .i64 w3.kind_), .pv (.str w3.text_), .pv (.str w3.quoted_), .pv (.slice (List.map Word.pv w3.words_)), .pv (.slice (List.map Cmd.pv w3.cmd_))]] ?_ ?_
            · simp -implicitDefEqProofs only [RUNS, qindex, Nat.reduceAdd, Nat.reduceLeDiff, Nat.reduceSub, reduceIte, Nat.reduceEqDiff, Nat.reduceLT, reduceCtorEq, Nat.reduceMul, Nat.reduceBEq, Int.reduceEq, if_true, if_false, eq_self, ne_eq, env_bT, T_3, T_22, T_34, T_41, T_44, P29_eq, Var.pv_eq, P32_eq, GEnv.pv_eq, P41_eq, Redir.pv_eq, P152_eq, Cmd.pv_eq, P42_eq, Word.pv_eq, GValue.pv_eq, pf_51, f48]
            refine AW.ret ?_
            cases h
            show finish _ _ _ _ _ = _
            first | rfl | (simp [finish, resOf, renArgs, toPV, selObjs, sl])
          · replace h := bif_f hb44 h
            refine AW.seq ?_
            refine AW.reg hS [(0, .pv (.slice (List.map GEnv.pv l1))), (1, .pv (.int .i64 group2)), (5, .ref 0 0), (83, .pv (.bool (decide (w3.kind_ = 5))))] [.var [.pv (.int .i64 w3.kind_), .pv (.str w3.text_), .pv (.str w3.quoted_), .pv (.slice (List.map Word.pv w3.words_)), .pv (.slice (List.map Cmd.pv w3.cmd_))]] ?_ ?_
            · simp -implicitDefEqProofs only [RUNS, qindex, Nat.reduceAdd, Nat.reduceLeDiff, Nat.reduceSub, reduceIte, Nat.reduceEqDiff, Nat.reduceLT, reduceCtorEq, Nat.reduceMul, Nat.reduceBEq, Int.reduceEq, if_true, if_false, eq_self, ne_eq, env_bT, T_3, P29_eq, Var.pv_eq, P32_eq, GEnv.pv_eq, P41_eq, Redir.pv_eq, P152_eq, Cmd.pv_eq, P42_eq, Word.pv_eq, GValue.pv_eq, eqT_3]
            refine AW.cond (b := decide (w3.kind_ = 5)) rfl (fun hb49 => ?_) (fun hb49 => ?_)
            · replace h := bif_t hb49 h
              refine AW.seq ?_
              replace h := Option.bind_eq_some_iff.1 h; obtain ⟨⟨r50, r51⟩, q52, h⟩ := h
              dsimp only at h
              have f53 := c_F50 l1 group2 w3.words_ r50 r51 q52
              try dsimp only at f53
              refine AW.reg hS [(6, .pv (.slice (List.map GValue.pv r50))), (7, .pv (.int .i64 r51))] [.var [.pv (.int .i64 w3.kind_), .pv (.str w3.text_), .pv (.str w3.quoted_), .pv (.slice (List.map Word.pv w3.words_)), .pv (.slice (List.map Cmd.pv w3.cmd_))]] ?_ ?_
              · simp -implicitDefEqProofs only [RUNS, qindex, Nat.reduceAdd, Nat.reduceLeDiff, Nat.reduceSub, reduceIte, Nat.reduceEqDiff, Nat.reduceLT, reduceCtorEq, Nat.reduceMul, Nat.reduceBEq, Int.reduceEq, if_true, if_false, eq_self, ne_eq, env_bT, T_3, T_22, T_34, T_41, T_44, P29_eq, Var.pv_eq, P32_eq, GEnv.pv_eq, P41_eq, Redir.pv_eq, P152_eq, Cmd.pv_eq, P42_eq, Word.pv_eq, GValue.pv_eq, pf_50, f53]
              refine AW.ret ?_
              cases h
              show finish _ _ _ _ _ = _
              first | rfl | (simp [finish, resOf, renArgs, toPV, selObjs, sl])
            · replace h := bif_f hb49 h
              refine AW.skip ?_
              refine AW.seq ?_
              refine AW.reg hS [(6, .nils), (7, .pv (.int .i64 1))] [.var [.pv (.int .i64 w3.kind_), .pv (.str w3.text_), .pv (.str w3.quoted_), .pv (.slice (List.map Word.pv w3.words_)), .pv (.slice (List.map Cmd.pv w3.cmd_))]] ?_ ?_
              · simp -implicitDefEqProofs only [RUNS, qindex, Nat.reduceAdd, Nat.reduceLeDiff, Nat.reduceSub, reduceIte, Nat.reduceEqDiff, Nat.reduceLT, reduceCtorEq, Nat.reduceMul, Nat.reduceBEq, Int.reduceEq, if_true, if_false, eq_self, ne_eq, env_bT, P29_eq, Var.pv_eq, P32_eq, GEnv.pv_eq, P41_eq, Redir.pv_eq, P152_eq, Cmd.pv_eq, P42_eq, Word.pv_eq, GValue.pv_eq]
              refine AW.ret ?_
              cases h
              show finish _ _ _ _ _ = _
              first | rfl | (simp [finish, resOf, renArgs, toPV, selObjs, sl])

set_option maxHeartbeats 4000000 in
theorem g_F17 {O : Orc} (hS : Sound env O) (hpf : O.pf = pfn) (c_K36 : C_K36 O) (c_F35 : C_F35 O) (l1 : List GEnv) (group2 : Int) (w3 : Word) (r4 : List Str) (r5 : List Str) (r6 : Int) (h : F17 l1 group2 w3 = some (r4, r5, r6)) : Good env 17 [.pv (.slice (List.map GEnv.pv l1)), .pv (.int .i64 group2), .pv (.agg [.int .i64 w3.kind_, .str w3.text_, .str w3.quoted_, .slice (List.map Word.pv w3.words_), .slice (List.map Cmd.pv w3.cmd_)])] [] [.pv (.slice (List.map PV.str r4)), .pv (.slice (List.map PV.str r5)), .pv (.int .i64 r6)] [] := by
  have pf_35 : O.pf 35 = true := by rw [hpf]; rfl
  have pf_36 : O.pf 36 = true := by rw [hpf]; rfl
  refine Good.start (fn := Tryz.f17) (N := 39) fn_17 rfl rfl (by simp) [] _ rfl rfl ?_
  rw [F17] at h
  refine AW.seq ?_
  refine AW.reg hS [(0, .pv (.slice (List.map GEnv.pv l1))), (1, .pv (.int .i64 group2)), (5, .ref 0 0)] [.var [.pv (.int .i64 w3.kind_), .pv (.str w3.text_), .pv (.str w3.quoted_), .pv (.slice (List.map Word.pv w3.words_)), .pv (.slice (List.map Cmd.pv w3.cmd_))]] ?_ ?_
  · simp -implicitDefEqProofs only [RUNS, qindex, Nat.reduceAdd, Nat.reduceLeDiff, Nat.reduceSub, reduceIte, Nat.reduceEqDiff, Nat.reduceLT, reduceCtorEq, Nat.reduceMul, Nat.reduceBEq, Int.reduceEq, if_true, if_false, eq_self, ne_eq, env_bT, T_44, P29_eq, Var.pv_eq, P32_eq, GEnv.pv_eq, P41_eq, Redir.pv_eq, P152_eq, Cmd.pv_eq, P42_eq, Word.pv_eq, GValue.pv_eq]
  refine AW.seq ?_
  replace h := Option.bind_eq_some_iff.1 h; obtain ⟨⟨r7, r8⟩, q9, h⟩ := h
  dsimp only at h
  have f10 := c_K36 l1 group2 w3 r7 r8 q9
  try dsimp only at f10
  refine AW.reg hS [(9, .pv (.slice (List.map GValue.pv r7))), (10, .pv (.int .i64 r8))] [.var [.pv (.int .i64 w3.kind_), .pv (.str w3.text_), .pv (.str w3.quoted_), .pv (.slice (List.map Word.pv w3.words_)), .pv (.slice (List.map Cmd.pv w3.cmd_))]] ?_ ?_
  · simp -implicitDefEqProofs only [RUNS, qindex, Nat.reduceAdd, Nat.reduceLeDiff, Nat.reduceSub, reduceIte, Nat.reduceEqDiff, Nat.reduceLT, reduceCtorEq, Nat.reduceMul, Nat.reduceBEq, Int.reduceEq, if_true, if_false, eq_self, ne_eq, env_bT, T_3, T_22, T_34, T_44, P29_eq, Var.pv_eq, P32_eq, GEnv.pv_eq, P41_eq, Redir.pv_eq, P152_eq, Cmd.pv_eq, P42_eq, Word.pv_eq, GValue.pv_eq, pf_36, f10]
  refine AW.seq ?_
  refine AW.seq ?_
  refine AW.reg hS [(9, .pv (.slice (List.map GValue.pv r7))), (10, .pv (.int .i64 r8)), (22, .pv (.bool (!decide (r8 = 0))))] [.var [.pv (.int .i64 w3.kind_), .pv (.str w3.text_), .pv (.str w3.quoted_), .pv (.slice (List.map Word.pv w3.words_)), .pv (.slice (List.map Cmd.pv w3.cmd_))]] ?_ ?_
  · simp -implicitDefEqProofs only [RUNS, qindex, Nat.reduceAdd, Nat.reduceLeDiff, Nat.reduceSub, reduceIte, Nat.reduceEqDiff, Nat.reduceLT, reduceCtorEq, Nat.reduceMul, Nat.reduceBEq, Int.reduceEq, if_true, if_false, eq_self, ne_eq, env_bT, T_25, P29_eq, Var.pv_eq, P32_eq, GEnv.pv_eq, P41_eq, Redir.pv_eq, P152_eq, Cmd.pv_eq, P42_eq, Word.pv_eq, GValue.pv_eq, eqT_25]
  refine AW.cond (b := !decide (r8 = 0)) rfl (fun hb11 => ?_) (fun hb11 => ?_)
  · replace h := bif_t hb11 h
    refine AW.seq ?_
    refine AW.reg hS [(6, .nils), (7, .nils), (8, .pv (.int .i64 r8))] [.var [.pv (.int .i64 w3.kind_), .pv (.str w3.text_), .pv (.str w3.quoted_), .pv (.slice (List.map Word.pv w3.words_)), .pv (.slice (List.map Cmd.pv w3.cmd_))]] ?_ ?_
    · simp -implicitDefEqProofs only [RUNS, qindex, Nat.reduceAdd, Nat.reduceLeDiff, Nat.reduceSub, reduceIte, Nat.reduceEqDiff, Nat.reduceLT, reduceCtorEq, Nat.reduceMul, Nat.reduceBEq, Int.reduceEq, if_true, if_false, eq_self, ne_eq, env_bT, P29_eq, Var.pv_eq, P32_eq, GEnv.pv_eq, P41_eq, Redir.pv_eq, P152_eq, Cmd.pv_eq, P42_eq, Word.pv_eq, GValue.pv_eq]
    refine AW.ret ?_
    cases h
    show finish _ _ _ _ _ = _
    first | rfl | (simp [finish, resOf, renArgs, toPV, selObjs, sl])
  · replace h := bif_f hb11 h
    refine AW.skip ?_
    refine AW.seq ?_
    refine AW.reg hS [(9, .pv (.slice (List.map GValue.pv r7))), (11, .nils)] [.var [.pv (.int .i64 w3.kind_), .pv (.str w3.text_), .pv (.str w3.quoted_), .pv (.slice (List.map Word.pv w3.words_)), .pv (.slice (List.map Cmd.pv w3.cmd_))]] ?_ ?_
    · simp -implicitDefEqProofs only [RUNS, qindex, Nat.reduceAdd, Nat.reduceLeDiff, Nat.reduceSub, reduceIte, Nat.reduceEqDiff, Nat.reduceLT, reduceCtorEq, Nat.reduceMul, Nat.reduceBEq, Int.reduceEq, if_true, if_false, eq_self, ne_eq, env_bT, P29_eq, Var.pv_eq, P32_eq, GEnv.pv_eq, P41_eq, Redir.pv_eq, P152_eq, Cmd.pv_eq, P42_eq, Word.pv_eq, GValue.pv_eq]
    refine AW.weak (Weak.own 11 9 1 (by decide) rfl) ?_
    refine AW.weak (Weak.slots (L := [(9, .pv (.slice (List.map GValue.pv r7))), (11, .vec 1 (List.length ([] : List Str)))]) ⟨rfl, rfl, trivial⟩) ?_
    refine AW.seq ?_
    refine AW.seq ?_
    refine AW.reg hS [(9, .pv (.slice (List.map GValue.pv r7))), (11, .vec 1 (List.length ([] : List Str))), (24, .pv (.slice (List.map GValue.pv r7))), (25, .pv (.int .i64 (r7.length : Int))), (26, .pv (.int .i64 0))] [.var [.pv (.int .i64 w3.kind_), .pv (.str w3.text_), .pv (.str w3.quoted_), .pv (.slice (List.map Word.pv w3.words_)), .pv (.slice (List.map Cmd.pv w3.cmd_))], .row 9 1 (List.map PV.str ([] : List Str)) true] ?_ ?_
    · simp -implicitDefEqProofs only [RUNS, qindex, Nat.reduceAdd, Nat.reduceLeDiff, Nat.reduceSub, reduceIte, Nat.reduceEqDiff, Nat.reduceLT, reduceCtorEq, Nat.reduceMul, Nat.reduceBEq, Int.reduceEq, if_true, if_false, eq_self, ne_eq, env_bT, T_69, T_76, P29_eq, Var.pv_eq, P32_eq, GEnv.pv_eq, P41_eq, Redir.pv_eq, P152_eq, Cmd.pv_eq, P42_eq, Word.pv_eq, GValue.pv_eq]
    refine AW.block ?_
    refine AW.weak (Weak.slots (L := [(9, .pv (.slice (List.map GValue.pv r7))), (11, .vec 1 (List.length ([] : List Str))), (24, .pv (.slice (List.map GValue.pv r7))), (25, .pv (.int .i64 (r7.length : Int))), (26, .pv (.int .i64 0))]) ⟨rfl, rfl, rfl, rfl, rfl, trivial⟩) ?_
    refine AW.loopI (α := Nat × Int × (List Str)) (fun (_, i12, l13) => ⟨sl [(9, .pv (.slice (List.map GValue.pv r7))), (11, .vec 1 (List.length l13)), (24, .pv (.slice (List.map GValue.pv r7))), (25, .pv (.int .i64 (r7.length : Int))), (26, .pv (.int .i64 i12))], 39, [.var [.pv (.int .i64 w3.kind_), .pv (.str w3.text_), .pv (.str w3.quoted_), .pv (.slice (List.map Word.pv w3.words_)), .pv (.slice (List.map Cmd.pv w3.cmd_))], .row 9 1 (List.map PV.str l13) true]⟩) (fun x => iter (F17_b1 r7) x.1 x.2 = some (r4, r5, r6)) (fun x => x.1) (BIG, (0, ([] : List Str))) h ?_
    clear h
    intro ⟨n27, i12, l13⟩ h
    replace h := iter_some h; obtain ⟨m16, rfl, h⟩ := h
    rw [F17_b1] at h
    try dsimp only at h
    show AW _ _ _ _ ⟨sl [(9, .pv (.slice (List.map GValue.pv r7))), (11, .vec 1 (List.length l13)), (24, .pv (.slice (List.map GValue.pv r7))), (25, .pv (.int .i64 (r7.length : Int))), (26, .pv (.int .i64 i12))], 39, [.var [.pv (.int .i64 w3.kind_), .pv (.str w3.text_), .pv (.str w3.quoted_), .pv (.slice (List.map Word.pv w3.words_)), .pv (.slice (List.map Cmd.pv w3.cmd_))], .row 9 1 (List.map PV.str l13) true]⟩
    refine AW.seq ?_
    refine AW.reg hS [(9, .pv (.slice (List.map GValue.pv r7))), (11, .vec 1 (List.length l13)), (24, .pv (.slice (List.map GValue.pv r7))), (25, .pv (.int .i64 (r7.length : Int))), (26, .pv (.int .i64 i12)), (27, .pv (.bool (decide (i12 < (r7.length : Int)))))] [.var [.pv (.int .i64 w3.kind_), .pv (.str w3.text_), .pv (.str w3.quoted_), .pv (.slice (List.map Word.pv w3.words_)), .pv (.slice (List.map Cmd.pv w3.cmd_))], .row 9 1 (List.map PV.str l13) true] ?_ ?_
    · simp -implicitDefEqProofs only [RUNS, qindex, Nat.reduceAdd, Nat.reduceLeDiff, Nat.reduceSub, reduceIte, Nat.reduceEqDiff, Nat.reduceLT, reduceCtorEq, Nat.reduceMul, Nat.reduceBEq, Int.reduceEq, if_true, if_false, eq_self, ne_eq, env_bT, T_3, P29_eq, Var.pv_eq, P32_eq, GEnv.pv_eq, P41_eq, Redir.pv_eq, P152_eq, Cmd.pv_eq, P42_eq, Word.pv_eq, GValue.pv_eq, eqT_3]
    refine AW.seq ?_
    refine AW.cond (b := decide (i12 < (r7.length : Int))) rfl (fun hb17 => ?_) (fun hb17 => ?_)
    · replace h := bif_t hb17 h
      refine AW.skip ?_
      refine AW.seq ?_
      refine AW.block ?_
      refine AW.seq ?_
      replace h := Option.bind_eq_some_iff.1 h; obtain ⟨u18, q19, h⟩ := h
      have f20 := lidx_f q19
      refine AW.reg hS [(9, .pv (.slice (List.map GValue.pv r7))), (11, .vec 1 (List.length l13)), (13, .ref 2 0), (24, .pv (.slice (List.map GValue.pv r7))), (25, .pv (.int .i64 (r7.length : Int))), (26, .pv (.int .i64 i12))] [.var [.pv (.int .i64 w3.kind_), .pv (.str w3.text_), .pv (.str w3.quoted_), .pv (.slice (List.map Word.pv w3.words_)), .pv (.slice (List.map Cmd.pv w3.cmd_))], .row 9 1 (List.map PV.str l13) true, .var [.pv (.str u18.text_), .pv (.str u18.marks_)]] ?_ ?_
      · simp -implicitDefEqProofs only [RUNS, qindex, Nat.reduceAdd, Nat.reduceLeDiff, Nat.reduceSub, reduceIte, Nat.reduceEqDiff, Nat.reduceLT, reduceCtorEq, Nat.reduceMul, Nat.reduceBEq, Int.reduceEq, if_true, if_false, eq_self, ne_eq, env_bT, T_69, T_76, P29_eq, Var.pv_eq, P32_eq, GEnv.pv_eq, P41_eq, Redir.pv_eq, P152_eq, Cmd.pv_eq, P42_eq, Word.pv_eq, GValue.pv_eq, f20.1, f20.2.1]
      replace h := Option.bind_eq_some_iff.1 h; obtain ⟨out21, q22, h⟩ := h
      have f23 := appO_f q22
      try simp only [List.length_cons, List.length_nil, Nat.zero_add, Nat.reduceAdd, Nat.reduceLeDiff, Nat.add_zero, Nat.reduceMul] at f23
      refine AW.reg hS [(9, .pv (.slice (List.map GValue.pv r7))), (11, .vec 1 (List.length out21)), (24, .pv (.slice (List.map GValue.pv r7))), (25, .pv (.int .i64 (r7.length : Int))), (26, .pv (.int .i64 i12))] [.var [.pv (.int .i64 w3.kind_), .pv (.str w3.text_), .pv (.str w3.quoted_), .pv (.slice (List.map Word.pv w3.words_)), .pv (.slice (List.map Cmd.pv w3.cmd_))], .row 9 1 (List.map PV.str out21) true, .var [.pv (.str u18.text_), .pv (.str u18.marks_)]] ?_ ?_
      · simp -implicitDefEqProofs only [RUNS, qindex, Nat.reduceAdd, Nat.reduceLeDiff, Nat.reduceSub, reduceIte, Nat.reduceEqDiff, Nat.reduceLT, reduceCtorEq, Nat.reduceMul, Nat.reduceBEq, Int.reduceEq, if_true, if_false, eq_self, ne_eq, env_bT, T_9, T_29, T_76, P29_eq, Var.pv_eq, P32_eq, GEnv.pv_eq, P41_eq, Redir.pv_eq, P152_eq, Cmd.pv_eq, P42_eq, Word.pv_eq, GValue.pv_eq, ownT_29, f23.1, f23.2, str_all] <;> (try simp only [List.length_take, List.length_drop, List.length_map])
      clear f23
      refine AW.reg hS [(9, .pv (.slice (List.map GValue.pv r7))), (11, .vec 1 (List.length out21)), (24, .pv (.slice (List.map GValue.pv r7))), (25, .pv (.int .i64 (r7.length : Int))), (26, .pv (.int .i64 (IntKind.wrap .i64 (i12 + 1))))] [.var [.pv (.int .i64 w3.kind_), .pv (.str w3.text_), .pv (.str w3.quoted_), .pv (.slice (List.map Word.pv w3.words_)), .pv (.slice (List.map Cmd.pv w3.cmd_))], .row 9 1 (List.map PV.str out21) true, .var [.pv (.str u18.text_), .pv (.str u18.marks_)]] ?_ ?_
      · simp -implicitDefEqProofs only [RUNS, qindex, Nat.reduceAdd, Nat.reduceLeDiff, Nat.reduceSub, reduceIte, Nat.reduceEqDiff, Nat.reduceLT, reduceCtorEq, Nat.reduceMul, Nat.reduceBEq, Int.reduceEq, if_true, if_false, eq_self, ne_eq, env_bT, T_3, P29_eq, Var.pv_eq, P32_eq, GEnv.pv_eq, P41_eq, Redir.pv_eq, P152_eq, Cmd.pv_eq, P42_eq, Word.pv_eq, GValue.pv_eq, eqT_3]
      exact ⟨(m16, (IntKind.wrap .i64 (i12 + 1), out21)), h, (Weak.norm (m := 2) (Nat.le_of_ble_eq_true rfl) ⟨rfl, rfl, rfl, rfl, rfl, trivial⟩ rfl rfl rfl), Nat.lt_succ_self _⟩
    · replace h := bif_f hb17 h
      refine AW.exit ?_
      refine AW.seq ?_
      replace h := Option.bind_eq_some_iff.1 h; obtain ⟨r24, q25, h⟩ := h
      have f26 := c_F35 r7 r24 q25
      try dsimp only at f26
      refine AW.reg hS [(6, .pv (.slice (List.map PV.str r24))), (7, .vec 1 (List.length l13)), (8, .pv (.int .i64 0))] [.var [.pv (.int .i64 w3.kind_), .pv (.str w3.text_), .pv (.str w3.quoted_), .pv (.slice (List.map Word.pv w3.words_)), .pv (.slice (List.map Cmd.pv w3.cmd_))], .row 9 1 (List.map PV.str l13) true] ?_ ?_
      · simp -implicitDefEqProofs only [RUNS, qindex, Nat.reduceAdd, Nat.reduceLeDiff, Nat.reduceSub, reduceIte, Nat.reduceEqDiff, Nat.reduceLT, reduceCtorEq, Nat.reduceMul, Nat.reduceBEq, Int.reduceEq, if_true, if_false, eq_self, ne_eq, env_bT, T_69, T_76, P29_eq, Var.pv_eq, P32_eq, GEnv.pv_eq, P41_eq, Redir.pv_eq, P152_eq, Cmd.pv_eq, P42_eq, Word.pv_eq, GValue.pv_eq, pf_35, f26]
      refine AW.ret ?_
      cases h
      show finish _ _ _ _ _ = _
      first | rfl | (simp [finish, resOf, renArgs, toPV, selObjs, sl])

set_option maxHeartbeats 4000000 in
theorem g_F23 {O : Orc} (hS : Sound env O) (hpf : O.pf = pfn) (c1 : Int) (r2 : Bool) (h : F23 c1 = some r2) : Good env 23 [.pv (.int .u8 c1)] [] [.pv (.bool r2)] [] := by
  refine Good.start (fn := Tryz.f23) (N := 33) fn_23 rfl rfl (by simp) [] _ rfl rfl ?_
  rw [F23] at h
  refine AW.seq ?_
  refine AW.reg hS [(0, .pv (.int .u8 c1))] [] ?_ ?_
  · simp -implicitDefEqProofs only [RUNS, qindex, Nat.reduceAdd, Nat.reduceLeDiff, Nat.reduceSub, reduceIte, Nat.reduceEqDiff, Nat.reduceLT, reduceCtorEq, Nat.reduceMul, Nat.reduceBEq, Int.reduceEq, if_true, if_false, eq_self, ne_eq, env_bT, P29_eq, Var.pv_eq, P32_eq, GEnv.pv_eq, P41_eq, Redir.pv_eq, P152_eq, Cmd.pv_eq, P42_eq, Word.pv_eq, GValue.pv_eq]
  refine AW.seq ?_
  refine AW.reg hS [(2, .pv (.bool (((((decide (97 ≤ c1) && decide (c1 ≤ 122)) || (decide (65 ≤ c1) && decide (c1 ≤ 90))) || (decide (48 ≤ c1) && decide (c1 ≤ 57))) || decide (c1 = 95)) || decide (c1 = 42))))] [] ?_ ?_
  · clear h
    (simp -implicitDefEqProofs only [RUNS, qindex, Nat.reduceAdd, Nat.reduceLeDiff, Nat.reduceSub, reduceIte, Nat.reduceEqDiff, Nat.reduceLT, reduceCtorEq, Nat.reduceMul, Nat.reduceBEq, Int.reduceEq, if_true, if_false, eq_self, ne_eq, env_bT, T_5, P29_eq, Var.pv_eq, P32_eq, GEnv.pv_eq, P41_eq, Redir.pv_eq, P152_eq, Cmd.pv_eq, P42_eq, Word.pv_eq, GValue.pv_eq, eqT_5]); repeat' (split <;> rename_i hb <;> (try simp only [HBS, ge_iff_le, gt_iff_lt] at hb) <;> simp -implicitDefEqProofs only [RUNS, qindex, Nat.reduceAdd, Nat.reduceLeDiff, Nat.reduceSub, reduceIte, Nat.reduceEqDiff, Nat.reduceLT, reduceCtorEq, Nat.reduceMul, Nat.reduceBEq, Int.reduceEq, if_true, if_false, eq_self, ne_eq, env_bT, T_5, P29_eq, Var.pv_eq, P32_eq, GEnv.pv_eq, P41_eq, Redir.pv_eq, P152_eq, Cmd.pv_eq, P42_eq, Word.pv_eq, GValue.pv_eq, eqT_5, *, decide_true, decide_false, Decidable.not_not, not_false_eq_true, not_true_eq_false])
    all_goals (first | (simp only [BOOLS]; done) | (simp [*]; done) | ((try simp only [CLOS, beq_iff_eq, bne_iff_ne, ne_eq] at *) <;> omega) | (simp_all; done) | (simp_all <;> omega))
  refine AW.ret ?_
  cases h
  show finish _ _ _ _ _ = _
  first | rfl | (simp [finish, resOf, renArgs, toPV, selObjs, sl])

set_option maxHeartbeats 4000000 in
theorem g_F40 {O : Orc} (hS : Sound env O) (hpf : O.pf = pfn) (s1 : Str) (prefix2 : Str) (r3 : Bool) (h : F40 s1 prefix2 = some r3) : Good env 40 [.pv (.str s1), .pv (.str prefix2)] [] [.pv (.bool r3)] [] := by
  refine Good.start (fn := Tryz.f40) (N := 18) fn_40 rfl rfl (by simp) [] _ rfl rfl ?_
  rw [F40] at h
  refine AW.seq ?_
  refine AW.reg hS [(0, .pv (.str s1)), (1, .pv (.str prefix2))] [] ?_ ?_
  · simp -implicitDefEqProofs only [RUNS, qindex, Nat.reduceAdd, Nat.reduceLeDiff, Nat.reduceSub, reduceIte, Nat.reduceEqDiff, Nat.reduceLT, reduceCtorEq, Nat.reduceMul, Nat.reduceBEq, Int.reduceEq, if_true, if_false, eq_self, ne_eq, env_bT, P29_eq, Var.pv_eq, P32_eq, GEnv.pv_eq, P41_eq, Redir.pv_eq, P152_eq, Cmd.pv_eq, P42_eq, Word.pv_eq, GValue.pv_eq]
  refine AW.seq ?_
  replace h := Option.bind_eq_some_iff.1 h; obtain ⟨t4, q5, h⟩ := h
  have f6 := sslice_g (guardO_t q5)
  have f6e := f6.2.2.2.2
  try simp only [Int.toNat_natCast, Int.toNat_zero, List.drop_zero] at f6e
  have f6l := f6.2.2.1
  try simp only [Int.toNat_natCast, Int.toNat_zero] at f6l
  refine AW.reg hS [(4, .pv (.bool (decide ((prefix2.length : Int) ≤ (s1.length : Int)) && decide (t4 = prefix2))))] [] ?_ ?_
  · clear h
    (simp -implicitDefEqProofs only [RUNS, qindex, Nat.reduceAdd, Nat.reduceLeDiff, Nat.reduceSub, reduceIte, Nat.reduceEqDiff, Nat.reduceLT, reduceCtorEq, Nat.reduceMul, Nat.reduceBEq, Int.reduceEq, if_true, if_false, eq_self, ne_eq, env_bT, T_3, T_9, P29_eq, Var.pv_eq, P32_eq, GEnv.pv_eq, P41_eq, Redir.pv_eq, P152_eq, Cmd.pv_eq, P42_eq, Word.pv_eq, GValue.pv_eq, eqT_3, f6.1, f6.2.1, f6l, f6.2.2.2.1, f6e, Int.toNat_natCast, Int.toNat_zero, eqT_9]); repeat' (split <;> rename_i hb <;> (try simp only [HBS, ge_iff_le, gt_iff_lt] at hb) <;> simp -implicitDefEqProofs only [RUNS, qindex, Nat.reduceAdd, Nat.reduceLeDiff, Nat.reduceSub, reduceIte, Nat.reduceEqDiff, Nat.reduceLT, reduceCtorEq, Nat.reduceMul, Nat.reduceBEq, Int.reduceEq, if_true, if_false, eq_self, ne_eq, env_bT, T_3, T_9, P29_eq, Var.pv_eq, P32_eq, GEnv.pv_eq, P41_eq, Redir.pv_eq, P152_eq, Cmd.pv_eq, P42_eq, Word.pv_eq, GValue.pv_eq, eqT_3, f6.1, f6.2.1, f6l, f6.2.2.2.1, f6e, Int.toNat_natCast, Int.toNat_zero, eqT_9, *, decide_true, decide_false, Decidable.not_not, not_false_eq_true, not_true_eq_false])
    all_goals (first | (simp only [BOOLS]; done) | (simp [*]; done) | ((try simp only [CLOS, beq_iff_eq, bne_iff_ne, ne_eq] at *) <;> omega) | (simp_all; done) | (simp_all <;> omega))
  refine AW.ret ?_
  cases h
  show finish _ _ _ _ _ = _
  first | rfl | (simp [finish, resOf, renArgs, toPV, selObjs, sl])

set_option maxHeartbeats 4000000 in
theorem g_F24 {O : Orc} (hS : Sound env O) (hpf : O.pf = pfn) (c_F40 : C_F40 O) (s1 : Str) (prefix2 : Str) (r3 : Bool) (h : F24 s1 prefix2 = some r3) : Good env 24 [.pv (.str s1), .pv (.str prefix2)] [] [.pv (.bool r3)] [] := by
  have pf_40 : O.pf 40 = true := by rw [hpf]; rfl
  refine Good.start (fn := Tryz.f24) (N := 8) fn_24 rfl rfl (by simp) [] _ rfl rfl ?_
  rw [F24] at h
  refine AW.seq ?_
  refine AW.reg hS [(0, .pv (.str s1)), (1, .pv (.str prefix2))] [] ?_ ?_
  · simp -implicitDefEqProofs only [RUNS, qindex, Nat.reduceAdd, Nat.reduceLeDiff, Nat.reduceSub, reduceIte, Nat.reduceEqDiff, Nat.reduceLT, reduceCtorEq, Nat.reduceMul, Nat.reduceBEq, Int.reduceEq, if_true, if_false, eq_self, ne_eq, env_bT, P29_eq, Var.pv_eq, P32_eq, GEnv.pv_eq, P41_eq, Redir.pv_eq, P152_eq, Cmd.pv_eq, P42_eq, Word.pv_eq, GValue.pv_eq]
  refine AW.seq ?_
  replace h := Option.bind_eq_some_iff.1 h; obtain ⟨r4, q5, h⟩ := h
  have f6 := c_F40 s1 prefix2 r4 q5
  try dsimp only at f6
  refine AW.reg hS [(4, .pv (.bool r4))] [] ?_ ?_
  · simp -implicitDefEqProofs only [RUNS, qindex, Nat.reduceAdd, Nat.reduceLeDiff, Nat.reduceSub, reduceIte, Nat.reduceEqDiff, Nat.reduceLT, reduceCtorEq, Nat.reduceMul, Nat.reduceBEq, Int.reduceEq, if_true, if_false, eq_self, ne_eq, env_bT, T_9, P29_eq, Var.pv_eq, P32_eq, GEnv.pv_eq, P41_eq, Redir.pv_eq, P152_eq, Cmd.pv_eq, P42_eq, Word.pv_eq, GValue.pv_eq, pf_40, f6]
  refine AW.ret ?_
  cases h
  show finish _ _ _ _ _ = _
  first | rfl | (simp [finish, resOf, renArgs, toPV, selObjs, sl])

set_option maxHeartbeats 4000000 in
theorem g_F43 {O : Orc} (hS : Sound env O) (hpf : O.pf = pfn) (c_F40 : C_F40 O) (s1 : Str) (prefix2 : Str) (r3 : Str) (h : F43 s1 prefix2 = some r3) : Good env 43 [.pv (.str s1), .pv (.str prefix2)] [] [.pv (.str r3)] [] := by
  have pf_40 : O.pf 40 = true := by rw [hpf]; rfl
  refine Good.start (fn := Tryz.f43) (N := 13) fn_43 rfl rfl (by simp) [] _ rfl rfl ?_
  rw [F43] at h
  refine AW.seq ?_
  refine AW.reg hS [(0, .pv (.str s1)), (1, .pv (.str prefix2))] [] ?_ ?_
  · simp -implicitDefEqProofs only [RUNS, qindex, Nat.reduceAdd, Nat.reduceLeDiff, Nat.reduceSub, reduceIte, Nat.reduceEqDiff, Nat.reduceLT, reduceCtorEq, Nat.reduceMul, Nat.reduceBEq, Int.reduceEq, if_true, if_false, eq_self, ne_eq, env_bT, P29_eq, Var.pv_eq, P32_eq, GEnv.pv_eq, P41_eq, Redir.pv_eq, P152_eq, Cmd.pv_eq, P42_eq, Word.pv_eq, GValue.pv_eq]
  refine AW.seq ?_
  refine AW.seq ?_
  replace h := Option.bind_eq_some_iff.1 h; obtain ⟨r4, q5, h⟩ := h
  have f6 := c_F40 s1 prefix2 r4 q5
  try dsimp only at f6
  refine AW.reg hS [(0, .pv (.str s1)), (1, .pv (.str prefix2)), (7, .pv (.bool r4))] [] ?_ ?_
  · simp -implicitDefEqProofs only [RUNS, qindex, Nat.reduceAdd, Nat.reduceLeDiff, Nat.reduceSub, reduceIte, Nat.reduceEqDiff, Nat.reduceLT, reduceCtorEq, Nat.reduceMul, Nat.reduceBEq, Int.reduceEq, if_true, if_false, eq_self, ne_eq, env_bT, T_9, P29_eq, Var.pv_eq, P32_eq, GEnv.pv_eq, P41_eq, Redir.pv_eq, P152_eq, Cmd.pv_eq, P42_eq, Word.pv_eq, GValue.pv_eq, pf_40, f6]
  refine AW.cond (b := r4) rfl (fun hb7 => ?_) (fun hb7 => ?_)
  · replace h := bif_t hb7 h
    refine AW.seq ?_
    replace h := Option.bind_eq_some_iff.1 h; obtain ⟨t8, q9, h⟩ := h
    have f10 := sslice_f q9
    have f10e := f10.2.2.2.2
    try simp only [Int.toNat_natCast, Int.toNat_zero, List.drop_zero] at f10e
    have f10l := f10.2.2.1
    try simp only [Int.toNat_natCast, Int.toNat_zero] at f10l
    refine AW.reg hS [(4, .pv (.str t8))] [] ?_ ?_
    · simp -implicitDefEqProofs only [RUNS, qindex, Nat.reduceAdd, Nat.reduceLeDiff, Nat.reduceSub, reduceIte, Nat.reduceEqDiff, Nat.reduceLT, reduceCtorEq, Nat.reduceMul, Nat.reduceBEq, Int.reduceEq, if_true, if_false, eq_self, ne_eq, env_bT, T_9, P29_eq, Var.pv_eq, P32_eq, GEnv.pv_eq, P41_eq, Redir.pv_eq, P152_eq, Cmd.pv_eq, P42_eq, Word.pv_eq, GValue.pv_eq, f10.1, f10.2.1, f10l, f10.2.2.2.1, f10e, Int.toNat_natCast, Int.toNat_zero]
    refine AW.ret ?_
    cases h
    show finish _ _ _ _ _ = _
    first | rfl | (simp [finish, resOf, renArgs, toPV, selObjs, sl])
  · replace h := bif_f hb7 h
    refine AW.skip ?_
    refine AW.seq ?_
    refine AW.reg hS [(4, .pv (.str s1))] [] ?_ ?_
    · simp -implicitDefEqProofs only [RUNS, qindex, Nat.reduceAdd, Nat.reduceLeDiff, Nat.reduceSub, reduceIte, Nat.reduceEqDiff, Nat.reduceLT, reduceCtorEq, Nat.reduceMul, Nat.reduceBEq, Int.reduceEq, if_true, if_false, eq_self, ne_eq, env_bT, P29_eq, Var.pv_eq, P32_eq, GEnv.pv_eq, P41_eq, Redir.pv_eq, P152_eq, Cmd.pv_eq, P42_eq, Word.pv_eq, GValue.pv_eq]
    refine AW.ret ?_
    cases h
    show finish _ _ _ _ _ = _
    first | rfl | (simp [finish, resOf, renArgs, toPV, selObjs, sl])

set_option maxHeartbeats 4000000 in
theorem g_F27 {O : Orc} (hS : Sound env O) (hpf : O.pf = pfn) (c_F43 : C_F43 O) (s1 : Str) (prefix2 : Str) (r3 : Str) (h : F27 s1 prefix2 = some r3) : Good env 27 [.pv (.str s1), .pv (.str prefix2)] [] [.pv (.str r3)] [] := by
  have pf_43 : O.pf 43 = true := by rw [hpf]; rfl
  refine Good.start (fn := Tryz.f27) (N := 8) fn_27 rfl rfl (by simp) [] _ rfl rfl ?_
  rw [F27] at h
  refine AW.seq ?_
  refine AW.reg hS [(0, .pv (.str s1)), (1, .pv (.str prefix2))] [] ?_ ?_
  · simp -implicitDefEqProofs only [RUNS, qindex, Nat.reduceAdd, Nat.reduceLeDiff, Nat.reduceSub, reduceIte, Nat.reduceEqDiff, Nat.reduceLT, reduceCtorEq, Nat.reduceMul, Nat.reduceBEq, Int.reduceEq, if_true, if_false, eq_self, ne_eq, env_bT, P29_eq, Var.pv_eq, P32_eq, GEnv.pv_eq, P41_eq, Redir.pv_eq, P152_eq, Cmd.pv_eq, P42_eq, Word.pv_eq, GValue.pv_eq]
  refine AW.seq ?_
  replace h := Option.bind_eq_some_iff.1 h; obtain ⟨r4, q5, h⟩ := h
  have f6 := c_F43 s1 prefix2 r4 q5
  try dsimp only at f6
  refine AW.reg hS [(4, .pv (.str r4))] [] ?_ ?_
  · simp -implicitDefEqProofs only [RUNS, qindex, Nat.reduceAdd, Nat.reduceLeDiff, Nat.reduceSub, reduceIte, Nat.reduceEqDiff, Nat.reduceLT, reduceCtorEq, Nat.reduceMul, Nat.reduceBEq, Int.reduceEq, if_true, if_false, eq_self, ne_eq, env_bT, T_9, P29_eq, Var.pv_eq, P32_eq, GEnv.pv_eq, P41_eq, Redir.pv_eq, P152_eq, Cmd.pv_eq, P42_eq, Word.pv_eq, GValue.pv_eq, pf_43, f6]
  refine AW.ret ?_
  cases h
  show finish _ _ _ _ _ = _
  first | rfl | (simp [finish, resOf, renArgs, toPV, selObjs, sl])

set_option maxHeartbeats 4000000 in
theorem g_F7 {O : Orc} (hS : Sound env O) (hpf : O.pf = pfn) (c_L_Len : C_L_Len O) (c_L_Cut : C_L_Cut O) (c_L_WriteString : C_L_WriteString O) (c_F23 : C_F23 O) (c_F24 : C_F24 O) (c_F26 : C_F26 O) (c_L_Join : C_L_Join O) (c_F27 : C_F27 O) (c_L_String : C_L_String O) (l1 : List GEnv) (group2 : Int) (s3 : Str) (r4 : Str) (r5 : Int) (h : F7 l1 group2 s3 = some (r4, r5)) : Good env 7 [.pv (.slice (List.map GEnv.pv l1)), .pv (.int .i64 group2), .pv (.str s3)] [] [.pv (.str r4), .pv (.int .i64 r5)] [] := by
  have pf_20 : O.pf 20 = false := by rw [hpf]; rfl
  have pf_21 : O.pf 21 = true := by rw [hpf]; rfl
  have pf_22 : O.pf 22 = false := by rw [hpf]; rfl
  have pf_23 : O.pf 23 = true := by rw [hpf]; rfl
  have pf_24 : O.pf 24 = true := by rw [hpf]; rfl
  have pf_25 : O.pf 25 = true := by rw [hpf]; rfl
  have pf_26 : O.pf 26 = true := by rw [hpf]; rfl
  have pf_27 : O.pf 27 = true := by rw [hpf]; rfl
  have pf_28 : O.pf 28 = false := by rw [hpf]; rfl
  refine Good.start (fn := Tryz.f7) (N := 67) fn_7 rfl rfl (by simp) [] _ rfl rfl ?_
  rw [F7] at h
  refine AW.seq ?_
  refine AW.reg hS [(0, .pv (.slice (List.map GEnv.pv l1))), (1, .pv (.int .i64 group2)), (2, .pv (.str s3))] [] ?_ ?_
  · simp -implicitDefEqProofs only [RUNS, qindex, Nat.reduceAdd, Nat.reduceLeDiff, Nat.reduceSub, reduceIte, Nat.reduceEqDiff, Nat.reduceLT, reduceCtorEq, Nat.reduceMul, Nat.reduceBEq, Int.reduceEq, if_true, if_false, eq_self, ne_eq, env_bT, P29_eq, Var.pv_eq, P32_eq, GEnv.pv_eq, P41_eq, Redir.pv_eq, P152_eq, Cmd.pv_eq, P42_eq, Word.pv_eq, GValue.pv_eq]
  refine AW.seq ?_
  refine AW.reg hS [(0, .pv (.slice (List.map GEnv.pv l1))), (1, .pv (.int .i64 group2)), (2, .pv (.str s3)), (8, .ref 0 0)] [.bld []] ?_ ?_
  · simp -implicitDefEqProofs only [RUNS, qindex, Nat.reduceAdd, Nat.reduceLeDiff, Nat.reduceSub, reduceIte, Nat.reduceEqDiff, Nat.reduceLT, reduceCtorEq, Nat.reduceMul, Nat.reduceBEq, Int.reduceEq, if_true, if_false, eq_self, ne_eq, env_bT, T_53, P29_eq, Var.pv_eq, P32_eq, GEnv.pv_eq, P41_eq, Redir.pv_eq, P152_eq, Cmd.pv_eq, P42_eq, Word.pv_eq, GValue.pv_eq]
  refine AW.seqJ (α := Str) (fun b6 => ⟨sl [(8, .ref 0 0)], 67, [.bld b6]⟩) (fun x => F7_j4 x = some (r4, r5)) ?_ ?_
  · intro b6 h
    rw [F7_j4] at h
    try dsimp only at h
    show AW _ _ _ _ ⟨sl [(8, .ref 0 0)], 67, [.bld b6]⟩
    refine AW.seq ?_
    refine AW.seq ?_
    replace h := Option.bind_eq_some_iff.1 h; obtain ⟨n7, q8, h⟩ := h
    have f9 := c_L_Len b6 n7 q8
    try dsimp only at f9
    have e10 : ecall O [.bld b6] 20 [.ref 0 0] = some (retAV [.pv (.int .i64 n7)], [.bld b6]) := ecall_eq rfl rfl rfl f9 rfl rfl rfl
    refine AW.reg hS [(8, .ref 0 0), (65, .pv (.bool (decide (65536 < n7))))] [.bld b6] ?_ ?_
    · simp -implicitDefEqProofs only [RUNS, qindex, Nat.reduceAdd, Nat.reduceLeDiff, Nat.reduceSub, reduceIte, Nat.reduceEqDiff, Nat.reduceLT, reduceCtorEq, Nat.reduceMul, Nat.reduceBEq, Int.reduceEq, if_true, if_false, eq_self, ne_eq, env_bT, T_3, T_53, P29_eq, Var.pv_eq, P32_eq, GEnv.pv_eq, P41_eq, Redir.pv_eq, P152_eq, Cmd.pv_eq, P42_eq, Word.pv_eq, GValue.pv_eq, pf_20, e10, eqT_3]
    refine AW.cond (b := decide (65536 < n7)) rfl (fun hb11 => ?_) (fun hb11 => ?_)
    · replace h := bif_t hb11 h
      refine AW.seq ?_
      refine AW.reg hS [(6, .pv (.str [])), (7, .pv (.int .i64 4))] [.bld b6] ?_ ?_
      · simp -implicitDefEqProofs only [RUNS, qindex, Nat.reduceAdd, Nat.reduceLeDiff, Nat.reduceSub, reduceIte, Nat.reduceEqDiff, Nat.reduceLT, reduceCtorEq, Nat.reduceMul, Nat.reduceBEq, Int.reduceEq, if_true, if_false, eq_self, ne_eq, env_bT, P29_eq, Var.pv_eq, P32_eq, GEnv.pv_eq, P41_eq, Redir.pv_eq, P152_eq, Cmd.pv_eq, P42_eq, Word.pv_eq, GValue.pv_eq]
      refine AW.ret ?_
      cases h
      show finish _ _ _ _ _ = _
      first | rfl | (simp [finish, resOf, renArgs, toPV, selObjs, sl])
    · replace h := bif_f hb11 h
      refine AW.skip ?_
      refine AW.seq ?_
      replace h := Option.bind_eq_some_iff.1 h; obtain ⟨s12, q13, h⟩ := h
      have f14 := c_L_String b6 s12 q13
      try dsimp only at f14
      have e15 : ecall O [.bld b6] 28 [.ref 0 0] = some (retAV [.pv (.str s12)], [.gone]) := ecall_eq rfl rfl rfl f14 rfl rfl rfl
      refine AW.reg hS [(6, .pv (.str s12)), (7, .pv (.int .i64 0))] [.gone] ?_ ?_
      · simp -implicitDefEqProofs only [RUNS, qindex, Nat.reduceAdd, Nat.reduceLeDiff, Nat.reduceSub, reduceIte, Nat.reduceEqDiff, Nat.reduceLT, reduceCtorEq, Nat.reduceMul, Nat.reduceBEq, Int.reduceEq, if_true, if_false, eq_self, ne_eq, env_bT, T_53, P29_eq, Var.pv_eq, P32_eq, GEnv.pv_eq, P41_eq, Redir.pv_eq, P152_eq, Cmd.pv_eq, P42_eq, Word.pv_eq, GValue.pv_eq, pf_28, e15]
      refine AW.ret ?_
      cases h
      show finish _ _ _ _ _ = _
      first | rfl | (simp [finish, resOf, renArgs, toPV, selObjs, sl])
  refine AW.block ?_
  refine AW.weak (Weak.slots (L := [(0, .pv (.slice (List.map GEnv.pv l1))), (1, .pv (.int .i64 group2)), (2, .pv (.str s3)), (8, .ref 0 0)]) ⟨rfl, rfl, rfl, rfl, trivial⟩) ?_
  refine AW.loopI (α := Nat × Str × Str) (fun (_, s16, b17) => ⟨sl [(0, .pv (.slice (List.map GEnv.pv l1))), (1, .pv (.int .i64 group2)), (2, .pv (.str s16)), (8, .ref 0 0)], 67, [.bld b17]⟩) (fun x => iter (F7_b6 l1 group2) x.1 x.2 = some (r4, r5)) (fun x => x.1) (BIG, (s3, [])) h ?_
  clear h
  intro ⟨n87, s16, b17⟩ h
  replace h := iter_some h; obtain ⟨m20, rfl, h⟩ := h
  rw [F7_b6] at h
  try dsimp only at h
  show AW _ _ _ _ ⟨sl [(0, .pv (.slice (List.map GEnv.pv l1))), (1, .pv (.int .i64 group2)), (2, .pv (.str s16)), (8, .ref 0 0)], 67, [.bld b17]⟩
  refine AW.seq ?_
  refine AW.seq ?_
  refine AW.cases (!decide (s16 = [])) (fun hsp8 => ?_) (fun hsp8 => ?_)
  · replace h := bif_t hsp8 h
    replace h := Option.bind_eq_some_iff.1 h; obtain ⟨n21, q22, h⟩ := h
    have f23 := c_L_Len b17 n21 q22
    try dsimp only at f23
    have e24 : ecall O [.bld b17] 20 [.ref 0 0] = some (retAV [.pv (.int .i64 n21)], [.bld b17]) := ecall_eq rfl rfl rfl f23 rfl rfl rfl
    refine AW.reg hS [(0, .pv (.slice (List.map GEnv.pv l1))), (1, .pv (.int .i64 group2)), (2, .pv (.str s16)), (8, .ref 0 0), (18, .pv (.bool (decide (n21 ≤ 65536))))] [.bld b17] ?_ ?_
    · simp -implicitDefEqProofs only [RUNS, qindex, Nat.reduceAdd, Nat.reduceLeDiff, Nat.reduceSub, reduceIte, Nat.reduceEqDiff, Nat.reduceLT, reduceCtorEq, Nat.reduceMul, Nat.reduceBEq, Int.reduceEq, if_true, if_false, eq_self, ne_eq, env_bT, T_3, T_9, T_53, P29_eq, Var.pv_eq, P32_eq, GEnv.pv_eq, P41_eq, Redir.pv_eq, P152_eq, Cmd.pv_eq, P42_eq, Word.pv_eq, GValue.pv_eq, eqT_9, hsp8, pf_20, e24, eqT_3]
    refine AW.cond (b := decide (n21 ≤ 65536)) rfl (fun hb25 => ?_) (fun hb25 => ?_)
    · replace h := bif_t hb25 h
      refine AW.skip ?_
      refine AW.block ?_
      refine AW.seq ?_
      replace h := Option.bind_eq_some_iff.1 h; obtain ⟨⟨a26, b27, ok28⟩, q29, h⟩ := h
      dsimp only at h
      have f30 := c_L_Cut s16 [36] a26 b27 ok28 q29
      try dsimp only at f30
      try simp only [List.map_cons, List.map_nil, P29_eq, Var.pv_eq, P32_eq, GEnv.pv_eq, P41_eq, Redir.pv_eq, P152_eq, Cmd.pv_eq, P42_eq, Word.pv_eq, GValue.pv_eq] at f30
      refine AW.reg hS [(0, .pv (.slice (List.map GEnv.pv l1))), (1, .pv (.int .i64 group2)), (8, .ref 0 0), (9, .pv (.str a26)), (10, .pv (.str b27)), (11, .pv (.bool ok28))] [.bld b17] ?_ ?_
      · simp -implicitDefEqProofs only [RUNS, qindex, Nat.reduceAdd, Nat.reduceLeDiff, Nat.reduceSub, reduceIte, Nat.reduceEqDiff, Nat.reduceLT, reduceCtorEq, Nat.reduceMul, Nat.reduceBEq, Int.reduceEq, if_true, if_false, eq_self, ne_eq, env_bT, T_9, P29_eq, Var.pv_eq, P32_eq, GEnv.pv_eq, P41_eq, Redir.pv_eq, P152_eq, Cmd.pv_eq, P42_eq, Word.pv_eq, GValue.pv_eq, pf_21, f30]
      refine AW.seq ?_
      replace h := Option.bind_eq_some_iff.1 h; obtain ⟨⟨n31, c32⟩, q33, h⟩ := h
      dsimp only at h
      have f34 := c_L_WriteString b17 a26 n31 c32 q33
      try dsimp only at f34
      have e35 : ecall O [.bld b17] 22 [.ref 0 0, .pv (.str a26)] = some (retAV [.pv (.int .i64 n31), .pv (.nil)], [.bld c32]) := ecall_eq rfl rfl rfl f34 rfl rfl rfl
      refine AW.reg hS [(0, .pv (.slice (List.map GEnv.pv l1))), (1, .pv (.int .i64 group2)), (8, .ref 0 0), (10, .pv (.str b27)), (11, .pv (.bool ok28))] [.bld c32] ?_ ?_
      · simp -implicitDefEqProofs only [RUNS, qindex, Nat.reduceAdd, Nat.reduceLeDiff, Nat.reduceSub, reduceIte, Nat.reduceEqDiff, Nat.reduceLT, reduceCtorEq, Nat.reduceMul, Nat.reduceBEq, Int.reduceEq, if_true, if_false, eq_self, ne_eq, env_bT, T_9, T_53, P29_eq, Var.pv_eq, P32_eq, GEnv.pv_eq, P41_eq, Redir.pv_eq, P152_eq, Cmd.pv_eq, P42_eq, Word.pv_eq, GValue.pv_eq, pf_22, e35]
      refine AW.seq ?_
      refine AW.seq ?_
      refine AW.reg hS [(0, .pv (.slice (List.map GEnv.pv l1))), (1, .pv (.int .i64 group2)), (8, .ref 0 0), (10, .pv (.str b27)), (28, .pv (.bool (!ok28)))] [.bld c32] ?_ ?_
      · simp -implicitDefEqProofs only [RUNS, qindex, Nat.reduceAdd, Nat.reduceLeDiff, Nat.reduceSub, reduceIte, Nat.reduceEqDiff, Nat.reduceLT, reduceCtorEq, Nat.reduceMul, Nat.reduceBEq, Int.reduceEq, if_true, if_false, eq_self, ne_eq, env_bT, P29_eq, Var.pv_eq, P32_eq, GEnv.pv_eq, P41_eq, Redir.pv_eq, P152_eq, Cmd.pv_eq, P42_eq, Word.pv_eq, GValue.pv_eq]
      refine AW.cond (b := !ok28) rfl (fun hb36 => ?_) (fun hb36 => ?_)
      · replace h := bif_t hb36 h
        refine AW.exit ?_
        exact ⟨c32, h, (Weak.norm (m := 1) (Nat.le_of_ble_eq_true rfl) ⟨rfl, trivial⟩ rfl rfl rfl)⟩
      · replace h := bif_f hb36 h
        refine AW.skip ?_
        refine AW.seq ?_
        refine AW.reg hS [(0, .pv (.slice (List.map GEnv.pv l1))), (1, .pv (.int .i64 group2)), (8, .ref 0 0), (10, .pv (.str b27)), (12, .pv (.int .i64 0))] [.bld c32] ?_ ?_
        · simp -implicitDefEqProofs only [RUNS, qindex, Nat.reduceAdd, Nat.reduceLeDiff, Nat.reduceSub, reduceIte, Nat.reduceEqDiff, Nat.reduceLT, reduceCtorEq, Nat.reduceMul, Nat.reduceBEq, Int.reduceEq, if_true, if_false, eq_self, ne_eq, env_bT, P29_eq, Var.pv_eq, P32_eq, GEnv.pv_eq, P41_eq, Redir.pv_eq, P152_eq, Cmd.pv_eq, P42_eq, Word.pv_eq, GValue.pv_eq]
        refine AW.seq ?_
        refine AW.block ?_
        refine AW.weak (Weak.slots (L := [(0, .pv (.slice (List.map GEnv.pv l1))), (1, .pv (.int .i64 group2)), (8, .ref 0 0), (10, .pv (.str b27)), (12, .pv (.int .i64 0))]) ⟨rfl, rfl, rfl, rfl, rfl, trivial⟩) ?_
        refine AW.loopI (α := Nat × Int) (fun (_, n37) => ⟨sl [(0, .pv (.slice (List.map GEnv.pv l1))), (1, .pv (.int .i64 group2)), (8, .ref 0 0), (10, .pv (.str b27)), (12, .pv (.int .i64 n37))], 67, [.bld c32]⟩) (fun x => iter (F7_b7 b27 c32 (iter (F7_b6 l1 group2) m20) l1 group2) x.1 x.2 = some (r4, r5)) (fun x => x.1) (BIG, 0) h ?_
        clear h
        intro ⟨n86, n37⟩ h
        replace h := iter_some h; obtain ⟨m40, rfl, h⟩ := h
        rw [F7_b7] at h
        try dsimp only at h
        show AW _ _ _ _ ⟨sl [(0, .pv (.slice (List.map GEnv.pv l1))), (1, .pv (.int .i64 group2)), (8, .ref 0 0), (10, .pv (.str b27)), (12, .pv (.int .i64 n37))], 67, [.bld c32]⟩
        refine AW.seq ?_
        refine AW.seq ?_
        replace h := Option.bind_eq_some_iff.1 h; obtain ⟨c41, q42, h⟩ := h
        have f43 := sidx_g (guardO_t q42)
        replace h := Option.bind_eq_some_iff.1 h; obtain ⟨r44, q45, h⟩ := h
        have f46 := fun hg => c_F23 c41 r44 (guardO_t q45 hg)
        try dsimp only at f46
        refine AW.reg hS [(0, .pv (.slice (List.map GEnv.pv l1))), (1, .pv (.int .i64 group2)), (8, .ref 0 0), (10, .pv (.str b27)), (12, .pv (.int .i64 n37)), (38, .pv (.bool (decide (n37 < (b27.length : Int)) && r44)))] [.bld c32] ?_ ?_
        · clear h
          (simp -implicitDefEqProofs only [RUNS, qindex, Nat.reduceAdd, Nat.reduceLeDiff, Nat.reduceSub, reduceIte, Nat.reduceEqDiff, Nat.reduceLT, reduceCtorEq, Nat.reduceMul, Nat.reduceBEq, Int.reduceEq, if_true, if_false, eq_self, ne_eq, env_bT, T_3, T_5, T_9, P29_eq, Var.pv_eq, P32_eq, GEnv.pv_eq, P41_eq, Redir.pv_eq, P152_eq, Cmd.pv_eq, P42_eq, Word.pv_eq, GValue.pv_eq, eqT_3, f43.1, f43.2.1, f43.2.2, pf_23, f46]); repeat' (split <;> rename_i hb <;> (try simp only [HBS, ge_iff_le, gt_iff_lt] at hb) <;> simp -implicitDefEqProofs only [RUNS, qindex, Nat.reduceAdd, Nat.reduceLeDiff, Nat.reduceSub, reduceIte, Nat.reduceEqDiff, Nat.reduceLT, reduceCtorEq, Nat.reduceMul, Nat.reduceBEq, Int.reduceEq, if_true, if_false, eq_self, ne_eq, env_bT, T_3, T_5, T_9, P29_eq, Var.pv_eq, P32_eq, GEnv.pv_eq, P41_eq, Redir.pv_eq, P152_eq, Cmd.pv_eq, P42_eq, Word.pv_eq, GValue.pv_eq, eqT_3, f43.1, f43.2.1, f43.2.2, pf_23, f46, *, decide_true, decide_false, Decidable.not_not, not_false_eq_true, not_true_eq_false])
          all_goals (first | (simp only [BOOLS]; done) | (simp [*]; done) | ((try simp only [CLOS, beq_iff_eq, bne_iff_ne, ne_eq] at *) <;> omega) | (simp_all; done) | (simp_all <;> omega))
        refine AW.cond (b := (decide (n37 < (b27.length : Int)) && r44)) rfl (fun hb47 => ?_) (fun hb47 => ?_)
        · replace h := bif_t hb47 h
          refine AW.skip ?_
          refine AW.block ?_
          refine AW.reg hS [(0, .pv (.slice (List.map GEnv.pv l1))), (1, .pv (.int .i64 group2)), (8, .ref 0 0), (10, .pv (.str b27)), (12, .pv (.int .i64 (IntKind.wrap .i64 (n37 + 1))))] [.bld c32] ?_ ?_
          · simp -implicitDefEqProofs only [RUNS, qindex, Nat.reduceAdd, Nat.reduceLeDiff, Nat.reduceSub, reduceIte, Nat.reduceEqDiff, Nat.reduceLT, reduceCtorEq, Nat.reduceMul, Nat.reduceBEq, Int.reduceEq, if_true, if_false, eq_self, ne_eq, env_bT, T_3, P29_eq, Var.pv_eq, P32_eq, GEnv.pv_eq, P41_eq, Redir.pv_eq, P152_eq, Cmd.pv_eq, P42_eq, Word.pv_eq, GValue.pv_eq, eqT_3]
          exact ⟨(m40, IntKind.wrap .i64 (n37 + 1)), h, (Weak.norm (m := 1) (Nat.le_of_ble_eq_true rfl) ⟨rfl, rfl, rfl, rfl, rfl, trivial⟩ rfl rfl rfl), Nat.lt_succ_self _⟩
        · replace h := bif_f hb47 h
          refine AW.exit ?_
          refine AW.block ?_
          refine AW.seq ?_
          replace h := Option.bind_eq_some_iff.1 h; obtain ⟨r48, q49, h⟩ := h
          have f50 := c_F24 b27 [36] r48 q49
          try dsimp only at f50
          try simp only [List.map_cons, List.map_nil, P29_eq, Var.pv_eq, P32_eq, GEnv.pv_eq, P41_eq, Redir.pv_eq, P152_eq, Cmd.pv_eq, P42_eq, Word.pv_eq, GValue.pv_eq] at f50
          refine AW.reg hS [(0, .pv (.slice (List.map GEnv.pv l1))), (1, .pv (.int .i64 group2)), (8, .ref 0 0), (10, .pv (.str b27)), (12, .pv (.int .i64 n37)), (53, .pv (.bool r48))] [.bld c32] ?_ ?_
          · simp -implicitDefEqProofs only [RUNS, qindex, Nat.reduceAdd, Nat.reduceLeDiff, Nat.reduceSub, reduceIte, Nat.reduceEqDiff, Nat.reduceLT, reduceCtorEq, Nat.reduceMul, Nat.reduceBEq, Int.reduceEq, if_true, if_false, eq_self, ne_eq, env_bT, T_9, P29_eq, Var.pv_eq, P32_eq, GEnv.pv_eq, P41_eq, Redir.pv_eq, P152_eq, Cmd.pv_eq, P42_eq, Word.pv_eq, GValue.pv_eq, pf_24, f50]
          refine AW.cond (b := r48) rfl (fun hb51 => ?_) (fun hb51 => ?_)
          · replace h := bif_t hb51 h
            refine AW.seq ?_
            replace h := Option.bind_eq_some_iff.1 h; obtain ⟨⟨n52, c53⟩, q54, h⟩ := h
            dsimp only at h
            have f55 := c_L_WriteString c32 [36] n52 c53 q54
            try dsimp only at f55
            try simp only [List.map_cons, List.map_nil, P29_eq, Var.pv_eq, P32_eq, GEnv.pv_eq, P41_eq, Redir.pv_eq, P152_eq, Cmd.pv_eq, P42_eq, Word.pv_eq, GValue.pv_eq] at f55
            have e56 : ecall O [.bld c32] 22 [.ref 0 0, .pv (.str [36])] = some (retAV [.pv (.int .i64 n52), .pv (.nil)], [.bld c53]) := ecall_eq rfl rfl rfl f55 rfl rfl rfl
            refine AW.reg hS [(0, .pv (.slice (List.map GEnv.pv l1))), (1, .pv (.int .i64 group2)), (8, .ref 0 0), (10, .pv (.str b27))] [.bld c53] ?_ ?_
            · simp -implicitDefEqProofs only [RUNS, qindex, Nat.reduceAdd, Nat.reduceLeDiff, Nat.reduceSub, reduceIte, Nat.reduceEqDiff, Nat.reduceLT, reduceCtorEq, Nat.reduceMul, Nat.reduceBEq, Int.reduceEq, if_true, if_false, eq_self, ne_eq, env_bT, T_9, T_53, P29_eq, Var.pv_eq, P32_eq, GEnv.pv_eq, P41_eq, Redir.pv_eq, P152_eq, Cmd.pv_eq, P42_eq, Word.pv_eq, GValue.pv_eq, pf_22, e56]
            replace h := Option.bind_eq_some_iff.1 h; obtain ⟨t57, q58, h⟩ := h
            have f59 := sslice_f q58
            have f59e := f59.2.2.2.2
            try simp only [Int.toNat_natCast, Int.toNat_zero, List.drop_zero] at f59e
            have f59l := f59.2.2.1
            try simp only [Int.toNat_natCast, Int.toNat_zero] at f59l
            refine AW.reg hS [(0, .pv (.slice (List.map GEnv.pv l1))), (1, .pv (.int .i64 group2)), (2, .pv (.str t57)), (8, .ref 0 0)] [.bld c53] ?_ ?_
            · simp -implicitDefEqProofs only [RUNS, qindex, Nat.reduceAdd, Nat.reduceLeDiff, Nat.reduceSub, reduceIte, Nat.reduceEqDiff, Nat.reduceLT, reduceCtorEq, Nat.reduceMul, Nat.reduceBEq, Int.reduceEq, if_true, if_false, eq_self, ne_eq, env_bT, T_9, P29_eq, Var.pv_eq, P32_eq, GEnv.pv_eq, P41_eq, Redir.pv_eq, P152_eq, Cmd.pv_eq, P42_eq, Word.pv_eq, GValue.pv_eq, f59.1, f59.2.1, f59l, f59.2.2.2.1, f59e, Int.toNat_natCast, Int.toNat_zero]
            exact ⟨(m20, (t57, c53)), h, (Weak.norm (m := 1) (Nat.le_of_ble_eq_true rfl) ⟨rfl, rfl, rfl, rfl, trivial⟩ rfl rfl rfl), Nat.lt_succ_self _⟩
          · replace h := bif_f hb51 h
            refine AW.seq ?_
            refine AW.reg hS [(0, .pv (.slice (List.map GEnv.pv l1))), (1, .pv (.int .i64 group2)), (8, .ref 0 0), (10, .pv (.str b27)), (12, .pv (.int .i64 n37)), (59, .pv (.bool (decide (n37 = 0))))] [.bld c32] ?_ ?_
            · simp -implicitDefEqProofs only [RUNS, qindex, Nat.reduceAdd, Nat.reduceLeDiff, Nat.reduceSub, reduceIte, Nat.reduceEqDiff, Nat.reduceLT, reduceCtorEq, Nat.reduceMul, Nat.reduceBEq, Int.reduceEq, if_true, if_false, eq_self, ne_eq, env_bT, T_3, P29_eq, Var.pv_eq, P32_eq, GEnv.pv_eq, P41_eq, Redir.pv_eq, P152_eq, Cmd.pv_eq, P42_eq, Word.pv_eq, GValue.pv_eq, eqT_3]
            refine AW.cond (b := decide (n37 = 0)) rfl (fun hb60 => ?_) (fun hb60 => ?_)
            · replace h := bif_t hb60 h
              refine AW.seq ?_
              replace h := Option.bind_eq_some_iff.1 h; obtain ⟨⟨n61, c62⟩, q63, h⟩ := h
              dsimp only at h
              have f64 := c_L_WriteString c32 [36] n61 c62 q63
              try dsimp only at f64
              try simp only [List.map_cons, List.map_nil, P29_eq, Var.pv_eq, P32_eq, GEnv.pv_eq, P41_eq, Redir.pv_eq, P152_eq, Cmd.pv_eq, P42_eq, Word.pv_eq, GValue.pv_eq] at f64
              have e65 : ecall O [.bld c32] 22 [.ref 0 0, .pv (.str [36])] = some (retAV [.pv (.int .i64 n61), .pv (.nil)], [.bld c62]) := ecall_eq rfl rfl rfl f64 rfl rfl rfl
              refine AW.reg hS [(0, .pv (.slice (List.map GEnv.pv l1))), (1, .pv (.int .i64 group2)), (8, .ref 0 0), (10, .pv (.str b27))] [.bld c62] ?_ ?_
              · simp -implicitDefEqProofs only [RUNS, qindex, Nat.reduceAdd, Nat.reduceLeDiff, Nat.reduceSub, reduceIte, Nat.reduceEqDiff, Nat.reduceLT, reduceCtorEq, Nat.reduceMul, Nat.reduceBEq, Int.reduceEq, if_true, if_false, eq_self, ne_eq, env_bT, T_9, T_53, P29_eq, Var.pv_eq, P32_eq, GEnv.pv_eq, P41_eq, Redir.pv_eq, P152_eq, Cmd.pv_eq, P42_eq, Word.pv_eq, GValue.pv_eq, pf_22, e65]
              refine AW.reg hS [(0, .pv (.slice (List.map GEnv.pv l1))), (1, .pv (.int .i64 group2)), (2, .pv (.str b27)), (8, .ref 0 0)] [.bld c62] ?_ ?_
              · simp -implicitDefEqProofs only [RUNS, qindex, Nat.reduceAdd, Nat.reduceLeDiff, Nat.reduceSub, reduceIte, Nat.reduceEqDiff, Nat.reduceLT, reduceCtorEq, Nat.reduceMul, Nat.reduceBEq, Int.reduceEq, if_true, if_false, eq_self, ne_eq, env_bT, P29_eq, Var.pv_eq, P32_eq, GEnv.pv_eq, P41_eq, Redir.pv_eq, P152_eq, Cmd.pv_eq, P42_eq, Word.pv_eq, GValue.pv_eq]
              exact ⟨(m20, (b27, c62)), h, (Weak.norm (m := 1) (Nat.le_of_ble_eq_true rfl) ⟨rfl, rfl, rfl, rfl, trivial⟩ rfl rfl rfl), Nat.lt_succ_self _⟩
            · replace h := bif_f hb60 h
              refine AW.seq ?_
              replace h := Option.bind_eq_some_iff.1 h; obtain ⟨t66, q67, h⟩ := h
              have f68 := sslice_f q67
              have f68e := f68.2.2.2.2
              try simp only [Int.toNat_natCast, Int.toNat_zero, List.drop_zero] at f68e
              have f68l := f68.2.2.1
              try simp only [Int.toNat_natCast, Int.toNat_zero] at f68l
              replace h := Option.bind_eq_some_iff.1 h; obtain ⟨r69, q70, h⟩ := h
              have f71 := c_F26 l1 group2 t66 r69 q70
              try dsimp only at f71
              replace h := Option.bind_eq_some_iff.1 h; obtain ⟨s72, q73, h⟩ := h
              have f74 := c_L_Join r69 [32] s72 q73
              try dsimp only at f74
              try simp only [List.map_cons, List.map_nil, P29_eq, Var.pv_eq, P32_eq, GEnv.pv_eq, P41_eq, Redir.pv_eq, P152_eq, Cmd.pv_eq, P42_eq, Word.pv_eq, GValue.pv_eq] at f74
              replace h := Option.bind_eq_some_iff.1 h; obtain ⟨⟨n75, c76⟩, q77, h⟩ := h
              dsimp only at h
              have f78 := c_L_WriteString c32 s72 n75 c76 q77
              try dsimp only at f78
              have e79 : ecall O [.bld c32] 22 [.ref 0 0, .pv (.str s72)] = some (retAV [.pv (.int .i64 n75), .pv (.nil)], [.bld c76]) := ecall_eq rfl rfl rfl f78 rfl rfl rfl
              refine AW.reg hS [(0, .pv (.slice (List.map GEnv.pv l1))), (1, .pv (.int .i64 group2)), (8, .ref 0 0), (10, .pv (.str b27)), (12, .pv (.int .i64 n37))] [.bld c76] ?_ ?_
              · simp -implicitDefEqProofs only [RUNS, qindex, Nat.reduceAdd, Nat.reduceLeDiff, Nat.reduceSub, reduceIte, Nat.reduceEqDiff, Nat.reduceLT, reduceCtorEq, Nat.reduceMul, Nat.reduceBEq, Int.reduceEq, if_true, if_false, eq_self, ne_eq, env_bT, T_3, T_9, T_22, T_29, T_34, T_53, P29_eq, Var.pv_eq, P32_eq, GEnv.pv_eq, P41_eq, Redir.pv_eq, P152_eq, Cmd.pv_eq, P42_eq, Word.pv_eq, GValue.pv_eq, f68.1, f68.2.1, f68l, f68.2.2.2.1, f68e, Int.toNat_natCast, Int.toNat_zero, pf_26, f71, pf_25, f74, pf_22, e79]
              replace h := Option.bind_eq_some_iff.1 h; obtain ⟨t80, q81, h⟩ := h
              have f82 := sslice_f q81
              have f82e := f82.2.2.2.2
              try simp only [Int.toNat_natCast, Int.toNat_zero, List.drop_zero] at f82e
              have f82l := f82.2.2.1
              try simp only [Int.toNat_natCast, Int.toNat_zero] at f82l
              replace h := Option.bind_eq_some_iff.1 h; obtain ⟨r83, q84, h⟩ := h
              have f85 := c_F27 t80 [94] r83 q84
              try dsimp only at f85
              try simp only [List.map_cons, List.map_nil, P29_eq, Var.pv_eq, P32_eq, GEnv.pv_eq, P41_eq, Redir.pv_eq, P152_eq, Cmd.pv_eq, P42_eq, Word.pv_eq, GValue.pv_eq] at f85
              refine AW.reg hS [(0, .pv (.slice (List.map GEnv.pv l1))), (1, .pv (.int .i64 group2)), (2, .pv (.str r83)), (8, .ref 0 0)] [.bld c76] ?_ ?_
              · simp -implicitDefEqProofs only [RUNS, qindex, Nat.reduceAdd, Nat.reduceLeDiff, Nat.reduceSub, reduceIte, Nat.reduceEqDiff, Nat.reduceLT, reduceCtorEq, Nat.reduceMul, Nat.reduceBEq, Int.reduceEq, if_true, if_false, eq_self, ne_eq, env_bT, T_9, P29_eq, Var.pv_eq, P32_eq, GEnv.pv_eq, P41_eq, Redir.pv_eq, P152_eq, Cmd.pv_eq, P42_eq, Word.pv_eq, GValue.pv_eq, f82.1, f82.2.1, f82l, f82.2.2.2.1, f82e, Int.toNat_natCast, Int.toNat_zero, pf_27, f85]
              exact ⟨(m20, (r83, c76)), h, (Weak.norm (m := 1) (Nat.le_of_ble_eq_true rfl) ⟨rfl, rfl, rfl, rfl, trivial⟩ rfl rfl rfl), Nat.lt_succ_self _⟩
    · replace h := bif_f hb25 h
      refine AW.exit ?_
      exact ⟨b17, h, (Weak.norm (m := 1) (Nat.le_of_ble_eq_true rfl) ⟨rfl, trivial⟩ rfl rfl rfl)⟩
  · replace h := bif_f hsp8 h
    refine AW.reg hS [(0, .pv (.slice (List.map GEnv.pv l1))), (1, .pv (.int .i64 group2)), (2, .pv (.str s16)), (8, .ref 0 0), (18, .pv (.bool false))] [.bld b17] ?_ ?_
    · simp -implicitDefEqProofs only [RUNS, qindex, Nat.reduceAdd, Nat.reduceLeDiff, Nat.reduceSub, reduceIte, Nat.reduceEqDiff, Nat.reduceLT, reduceCtorEq, Nat.reduceMul, Nat.reduceBEq, Int.reduceEq, if_true, if_false, eq_self, ne_eq, env_bT, T_3, T_9, T_53, P29_eq, Var.pv_eq, P32_eq, GEnv.pv_eq, P41_eq, Redir.pv_eq, P152_eq, Cmd.pv_eq, P42_eq, Word.pv_eq, GValue.pv_eq, eqT_9, hsp8]
    refine AW.cond (b := false) rfl (fun hb => absurd hb (by decide)) (fun _ => ?_)
    refine AW.exit ?_
    exact ⟨b17, h, (Weak.norm (m := 1) (Nat.le_of_ble_eq_true rfl) ⟨rfl, trivial⟩ rfl rfl rfl)⟩

set_option maxHeartbeats 4000000 in
theorem g_F9 {O : Orc} (hS : Sound env O) (hpf : O.pf = pfn) (a1 : List Str) (b2 : List Str) (r3 : Bool) (h : F9 a1 b2 = some r3) : Good env 9 [.pv (.slice (List.map PV.str a1)), .pv (.slice (List.map PV.str b2))] [] [.pv (.bool r3)] [] := by
  refine Good.start (fn := Tryz.f9) (N := 26) fn_9 rfl rfl (by simp) [] _ rfl rfl ?_
  rw [F9] at h
  refine AW.seq ?_
  refine AW.reg hS [(0, .pv (.slice (List.map PV.str a1))), (1, .pv (.slice (List.map PV.str b2)))] [] ?_ ?_
  · simp -implicitDefEqProofs only [RUNS, qindex, Nat.reduceAdd, Nat.reduceLeDiff, Nat.reduceSub, reduceIte, Nat.reduceEqDiff, Nat.reduceLT, reduceCtorEq, Nat.reduceMul, Nat.reduceBEq, Int.reduceEq, if_true, if_false, eq_self, ne_eq, env_bT, P29_eq, Var.pv_eq, P32_eq, GEnv.pv_eq, P41_eq, Redir.pv_eq, P152_eq, Cmd.pv_eq, P42_eq, Word.pv_eq, GValue.pv_eq]
  refine AW.seq ?_
  refine AW.seq ?_
  refine AW.reg hS [(0, .pv (.slice (List.map PV.str a1))), (1, .pv (.slice (List.map PV.str b2))), (10, .pv (.bool (!decide ((a1.length : Int) = (b2.length : Int)))))] [] ?_ ?_
  · simp -implicitDefEqProofs only [RUNS, qindex, Nat.reduceAdd, Nat.reduceLeDiff, Nat.reduceSub, reduceIte, Nat.reduceEqDiff, Nat.reduceLT, reduceCtorEq, Nat.reduceMul, Nat.reduceBEq, Int.reduceEq, if_true, if_false, eq_self, ne_eq, env_bT, T_3, T_9, T_29, P29_eq, Var.pv_eq, P32_eq, GEnv.pv_eq, P41_eq, Redir.pv_eq, P152_eq, Cmd.pv_eq, P42_eq, Word.pv_eq, GValue.pv_eq, eqT_3]
  refine AW.cond (b := !decide ((a1.length : Int) = (b2.length : Int))) rfl (fun hb4 => ?_) (fun hb4 => ?_)
  · replace h := bif_t hb4 h
    refine AW.seq ?_
    refine AW.reg hS [(4, .pv (.bool false))] [] ?_ ?_
    · simp -implicitDefEqProofs only [RUNS, qindex, Nat.reduceAdd, Nat.reduceLeDiff, Nat.reduceSub, reduceIte, Nat.reduceEqDiff, Nat.reduceLT, reduceCtorEq, Nat.reduceMul, Nat.reduceBEq, Int.reduceEq, if_true, if_false, eq_self, ne_eq, env_bT, P29_eq, Var.pv_eq, P32_eq, GEnv.pv_eq, P41_eq, Redir.pv_eq, P152_eq, Cmd.pv_eq, P42_eq, Word.pv_eq, GValue.pv_eq]
    refine AW.ret ?_
    cases h
    show finish _ _ _ _ _ = _
    first | rfl | (simp [finish, resOf, renArgs, toPV, selObjs, sl])
  · replace h := bif_f hb4 h
    refine AW.skip ?_
    refine AW.seq ?_
    refine AW.seq ?_
    refine AW.reg hS [(0, .pv (.slice (List.map PV.str a1))), (1, .pv (.slice (List.map PV.str b2))), (5, .pv (.int .i64 0))] [] ?_ ?_
    · simp -implicitDefEqProofs only [RUNS, qindex, Nat.reduceAdd, Nat.reduceLeDiff, Nat.reduceSub, reduceIte, Nat.reduceEqDiff, Nat.reduceLT, reduceCtorEq, Nat.reduceMul, Nat.reduceBEq, Int.reduceEq, if_true, if_false, eq_self, ne_eq, env_bT, P29_eq, Var.pv_eq, P32_eq, GEnv.pv_eq, P41_eq, Redir.pv_eq, P152_eq, Cmd.pv_eq, P42_eq, Word.pv_eq, GValue.pv_eq]
    refine AW.block ?_
    refine AW.weak (Weak.slots (L := [(0, .pv (.slice (List.map PV.str a1))), (1, .pv (.slice (List.map PV.str b2))), (5, .pv (.int .i64 0))]) ⟨rfl, rfl, rfl, trivial⟩) ?_
    refine AW.loopI (α := Nat × Int) (fun (_, i5) => ⟨sl [(0, .pv (.slice (List.map PV.str a1))), (1, .pv (.slice (List.map PV.str b2))), (5, .pv (.int .i64 i5))], 26, []⟩) (fun x => iter (F9_b1 a1 b2) x.1 x.2 = some r3) (fun x => x.1) (BIG, 0) h ?_
    clear h
    intro ⟨n17, i5⟩ h
    replace h := iter_some h; obtain ⟨m8, rfl, h⟩ := h
    rw [F9_b1] at h
    try dsimp only at h
    show AW _ _ _ _ ⟨sl [(0, .pv (.slice (List.map PV.str a1))), (1, .pv (.slice (List.map PV.str b2))), (5, .pv (.int .i64 i5))], 26, []⟩
    refine AW.seq ?_
    refine AW.seq ?_
    refine AW.reg hS [(0, .pv (.slice (List.map PV.str a1))), (1, .pv (.slice (List.map PV.str b2))), (5, .pv (.int .i64 i5)), (14, .pv (.bool (decide (i5 < (a1.length : Int)))))] [] ?_ ?_
    · simp -implicitDefEqProofs only [RUNS, qindex, Nat.reduceAdd, Nat.reduceLeDiff, Nat.reduceSub, reduceIte, Nat.reduceEqDiff, Nat.reduceLT, reduceCtorEq, Nat.reduceMul, Nat.reduceBEq, Int.reduceEq, if_true, if_false, eq_self, ne_eq, env_bT, T_3, T_9, T_29, P29_eq, Var.pv_eq, P32_eq, GEnv.pv_eq, P41_eq, Redir.pv_eq, P152_eq, Cmd.pv_eq, P42_eq, Word.pv_eq, GValue.pv_eq, eqT_3]
    refine AW.cond (b := decide (i5 < (a1.length : Int))) rfl (fun hb9 => ?_) (fun hb9 => ?_)
    · replace h := bif_t hb9 h
      refine AW.skip ?_
      refine AW.seq ?_
      refine AW.block ?_
      refine AW.seq ?_
      replace h := Option.bind_eq_some_iff.1 h; obtain ⟨w10, q11, h⟩ := h
      have f12 := lidx_f q11
      replace h := Option.bind_eq_some_iff.1 h; obtain ⟨w13, q14, h⟩ := h
      have f15 := lidx_f q14
      refine AW.dreg mixed hS (hpf ▸ (by kernel_rfl : orderOK pfn _ = true)) [(0, .pv (.slice (List.map PV.str a1))), (1, .pv (.slice (List.map PV.str b2))), (5, .pv (.int .i64 i5)), (25, .pv (.bool (!decide (w10 = w13))))] [] ?_ ?_
      · simp -implicitDefEqProofs only [RUNS, qindex, Nat.reduceAdd, Nat.reduceLeDiff, Nat.reduceSub, reduceIte, Nat.reduceEqDiff, Nat.reduceLT, reduceCtorEq, Nat.reduceMul, Nat.reduceBEq, Int.reduceEq, if_true, if_false, eq_self, ne_eq, env_bT, T_9, T_29, P29_eq, Var.pv_eq, P32_eq, GEnv.pv_eq, P41_eq, Redir.pv_eq, P152_eq, Cmd.pv_eq, P42_eq, Word.pv_eq, GValue.pv_eq, f12.1, f12.2.1, f15.1, f15.2.1, eqT_9]
      refine AW.cond (b := !decide (w10 = w13)) rfl (fun hb16 => ?_) (fun hb16 => ?_)
      · replace h := bif_t hb16 h
        refine AW.seq ?_
        refine AW.reg hS [(4, .pv (.bool false))] [] ?_ ?_
        · simp -implicitDefEqProofs only [RUNS, qindex, Nat.reduceAdd, Nat.reduceLeDiff, Nat.reduceSub, reduceIte, Nat.reduceEqDiff, Nat.reduceLT, reduceCtorEq, Nat.reduceMul, Nat.reduceBEq, Int.reduceEq, if_true, if_false, eq_self, ne_eq, env_bT, P29_eq, Var.pv_eq, P32_eq, GEnv.pv_eq, P41_eq, Redir.pv_eq, P152_eq, Cmd.pv_eq, P42_eq, Word.pv_eq, GValue.pv_eq]
        refine AW.ret ?_
        cases h
        show finish _ _ _ _ _ = _
        first | rfl | (simp [finish, resOf, renArgs, toPV, selObjs, sl])
      · replace h := bif_f hb16 h
        refine AW.skip ?_
        refine AW.reg hS [(0, .pv (.slice (List.map PV.str a1))), (1, .pv (.slice (List.map PV.str b2))), (5, .pv (.int .i64 (IntKind.wrap .i64 (i5 + 1))))] [] ?_ ?_
        · simp -implicitDefEqProofs only [RUNS, qindex, Nat.reduceAdd, Nat.reduceLeDiff, Nat.reduceSub, reduceIte, Nat.reduceEqDiff, Nat.reduceLT, reduceCtorEq, Nat.reduceMul, Nat.reduceBEq, Int.reduceEq, if_true, if_false, eq_self, ne_eq, env_bT, T_3, P29_eq, Var.pv_eq, P32_eq, GEnv.pv_eq, P41_eq, Redir.pv_eq, P152_eq, Cmd.pv_eq, P42_eq, Word.pv_eq, GValue.pv_eq, eqT_3]
        exact ⟨(m8, IntKind.wrap .i64 (i5 + 1)), h, (Weak.norm (m := 0) (Nat.le_of_ble_eq_true rfl) ⟨rfl, rfl, rfl, trivial⟩ rfl rfl rfl), Nat.lt_succ_self _⟩
    · replace h := bif_f hb9 h
      refine AW.exit ?_
      refine AW.seq ?_
      refine AW.reg hS [(4, .pv (.bool true))] [] ?_ ?_
      · simp -implicitDefEqProofs only [RUNS, qindex, Nat.reduceAdd, Nat.reduceLeDiff, Nat.reduceSub, reduceIte, Nat.reduceEqDiff, Nat.reduceLT, reduceCtorEq, Nat.reduceMul, Nat.reduceBEq, Int.reduceEq, if_true, if_false, eq_self, ne_eq, env_bT, P29_eq, Var.pv_eq, P32_eq, GEnv.pv_eq, P41_eq, Redir.pv_eq, P152_eq, Cmd.pv_eq, P42_eq, Word.pv_eq, GValue.pv_eq]
      refine AW.ret ?_
      cases h
      show finish _ _ _ _ _ = _
      first | rfl | (simp [finish, resOf, renArgs, toPV, selObjs, sl])

set_option maxHeartbeats 4000000 in
theorem g_F10 {O : Orc} (hS : Sound env O) (hpf : O.pf = pfn) (c_L_IndexByte : C_L_IndexByte O) (s1 : Str) (ifs2 : Str) (r3 : List Str) (h : F10 s1 ifs2 = some r3) : Good env 10 [.pv (.str s1), .pv (.str ifs2)] [] [.pv (.slice (List.map PV.str r3))] [] := by
  have pf_31 : O.pf 31 = true := by rw [hpf]; rfl
  refine Good.start (fn := Tryz.f10) (N := 39) fn_10 rfl rfl (by simp) [] _ rfl rfl ?_
  rw [F10] at h
  refine AW.seq ?_
  refine AW.reg hS [(0, .pv (.str s1)), (1, .pv (.str ifs2))] [] ?_ ?_
  · simp -implicitDefEqProofs only [RUNS, qindex, Nat.reduceAdd, Nat.reduceLeDiff, Nat.reduceSub, reduceIte, Nat.reduceEqDiff, Nat.reduceLT, reduceCtorEq, Nat.reduceMul, Nat.reduceBEq, Int.reduceEq, if_true, if_false, eq_self, ne_eq, env_bT, P29_eq, Var.pv_eq, P32_eq, GEnv.pv_eq, P41_eq, Redir.pv_eq, P152_eq, Cmd.pv_eq, P42_eq, Word.pv_eq, GValue.pv_eq]
  refine AW.seq ?_
  refine AW.reg hS [(0, .pv (.str s1)), (1, .pv (.str ifs2)), (5, .nils)] [] ?_ ?_
  · simp -implicitDefEqProofs only [RUNS, qindex, Nat.reduceAdd, Nat.reduceLeDiff, Nat.reduceSub, reduceIte, Nat.reduceEqDiff, Nat.reduceLT, reduceCtorEq, Nat.reduceMul, Nat.reduceBEq, Int.reduceEq, if_true, if_false, eq_self, ne_eq, env_bT, P29_eq, Var.pv_eq, P32_eq, GEnv.pv_eq, P41_eq, Redir.pv_eq, P152_eq, Cmd.pv_eq, P42_eq, Word.pv_eq, GValue.pv_eq]
  refine AW.weak (Weak.own 5 9 1 (by decide) rfl) ?_
  refine AW.weak (Weak.slots (L := [(0, .pv (.str s1)), (1, .pv (.str ifs2)), (5, .vec 0 (List.length ([] : List Str)))]) ⟨rfl, rfl, rfl, trivial⟩) ?_
  refine AW.seq ?_
  refine AW.reg hS [(0, .pv (.str s1)), (1, .pv (.str ifs2)), (5, .vec 0 (List.length ([] : List Str))), (6, .pv (.int .i64 0))] [.row 9 1 (List.map PV.str ([] : List Str)) true] ?_ ?_
  · simp -implicitDefEqProofs only [RUNS, qindex, Nat.reduceAdd, Nat.reduceLeDiff, Nat.reduceSub, reduceIte, Nat.reduceEqDiff, Nat.reduceLT, reduceCtorEq, Nat.reduceMul, Nat.reduceBEq, Int.reduceEq, if_true, if_false, eq_self, ne_eq, env_bT, P29_eq, Var.pv_eq, P32_eq, GEnv.pv_eq, P41_eq, Redir.pv_eq, P152_eq, Cmd.pv_eq, P42_eq, Word.pv_eq, GValue.pv_eq]
  refine AW.seq ?_
  refine AW.seq ?_
  refine AW.reg hS [(0, .pv (.str s1)), (1, .pv (.str ifs2)), (5, .vec 0 (List.length ([] : List Str))), (6, .pv (.int .i64 0)), (7, .pv (.int .i64 0))] [.row 9 1 (List.map PV.str ([] : List Str)) true] ?_ ?_
  · simp -implicitDefEqProofs only [RUNS, qindex, Nat.reduceAdd, Nat.reduceLeDiff, Nat.reduceSub, reduceIte, Nat.reduceEqDiff, Nat.reduceLT, reduceCtorEq, Nat.reduceMul, Nat.reduceBEq, Int.reduceEq, if_true, if_false, eq_self, ne_eq, env_bT, P29_eq, Var.pv_eq, P32_eq, GEnv.pv_eq, P41_eq, Redir.pv_eq, P152_eq, Cmd.pv_eq, P42_eq, Word.pv_eq, GValue.pv_eq]
  refine AW.block ?_
  refine AW.weak (Weak.slots (L := [(0, .pv (.str s1)), (1, .pv (.str ifs2)), (5, .vec 0 (List.length ([] : List Str))), (6, .pv (.int .i64 0)), (7, .pv (.int .i64 0))]) ⟨rfl, rfl, rfl, rfl, rfl, trivial⟩) ?_
  refine AW.loopI (α := Nat × Int × Int × (List Str)) (fun (_, from4, i5, l6) => ⟨sl [(0, .pv (.str s1)), (1, .pv (.str ifs2)), (5, .vec 0 (List.length l6)), (6, .pv (.int .i64 from4)), (7, .pv (.int .i64 i5))], 39, [.row 9 1 (List.map PV.str l6) true]⟩) (fun x => iter (F10_b1 s1 ifs2) x.1 x.2 = some r3) (fun x => x.1) (BIG, (0, 0, ([] : List Str))) h ?_
  clear h
  intro ⟨n25, from4, i5, l6⟩ h
  replace h := iter_some h; obtain ⟨m9, rfl, h⟩ := h
  rw [F10_b1] at h
  try dsimp only at h
  show AW _ _ _ _ ⟨sl [(0, .pv (.str s1)), (1, .pv (.str ifs2)), (5, .vec 0 (List.length l6)), (6, .pv (.int .i64 from4)), (7, .pv (.int .i64 i5))], 39, [.row 9 1 (List.map PV.str l6) true]⟩
  refine AW.seq ?_
  refine AW.seq ?_
  refine AW.reg hS [(0, .pv (.str s1)), (1, .pv (.str ifs2)), (5, .vec 0 (List.length l6)), (6, .pv (.int .i64 from4)), (7, .pv (.int .i64 i5)), (11, .pv (.bool (decide (i5 ≤ (s1.length : Int)))))] [.row 9 1 (List.map PV.str l6) true] ?_ ?_
  · simp -implicitDefEqProofs only [RUNS, qindex, Nat.reduceAdd, Nat.reduceLeDiff, Nat.reduceSub, reduceIte, Nat.reduceEqDiff, Nat.reduceLT, reduceCtorEq, Nat.reduceMul, Nat.reduceBEq, Int.reduceEq, if_true, if_false, eq_self, ne_eq, env_bT, T_3, T_9, P29_eq, Var.pv_eq, P32_eq, GEnv.pv_eq, P41_eq, Redir.pv_eq, P152_eq, Cmd.pv_eq, P42_eq, Word.pv_eq, GValue.pv_eq, eqT_3]
  refine AW.cond (b := decide (i5 ≤ (s1.length : Int))) rfl (fun hb10 => ?_) (fun hb10 => ?_)
  · replace h := bif_t hb10 h
    refine AW.skip ?_
    refine AW.seq ?_
    refine AW.block ?_
    refine AW.seq ?_
    refine AW.seq ?_
    replace h := Option.bind_eq_some_iff.1 h; obtain ⟨c11, q12, h⟩ := h
    have f13 := sidx_g (guardO_t q12)
    replace h := Option.bind_eq_some_iff.1 h; obtain ⟨n14, q15, h⟩ := h
    have f16 := fun hg => c_L_IndexByte ifs2 c11 n14 (guardO_t q15 hg)
    try dsimp only at f16
    refine AW.reg hS [(0, .pv (.str s1)), (1, .pv (.str ifs2)), (5, .vec 0 (List.length l6)), (6, .pv (.int .i64 from4)), (7, .pv (.int .i64 i5)), (25, .pv (.bool (decide (i5 < (s1.length : Int)) && decide (n14 < 0))))] [.row 9 1 (List.map PV.str l6) true] ?_ ?_
    · clear h
      (simp -implicitDefEqProofs only [RUNS, qindex, Nat.reduceAdd, Nat.reduceLeDiff, Nat.reduceSub, reduceIte, Nat.reduceEqDiff, Nat.reduceLT, reduceCtorEq, Nat.reduceMul, Nat.reduceBEq, Int.reduceEq, if_true, if_false, eq_self, ne_eq, env_bT, T_3, T_5, T_9, P29_eq, Var.pv_eq, P32_eq, GEnv.pv_eq, P41_eq, Redir.pv_eq, P152_eq, Cmd.pv_eq, P42_eq, Word.pv_eq, GValue.pv_eq, eqT_3, f13.1, f13.2.1, f13.2.2, pf_31, f16]); repeat' (split <;> rename_i hb <;> (try simp only [HBS, ge_iff_le, gt_iff_lt] at hb) <;> simp -implicitDefEqProofs only [RUNS, qindex, Nat.reduceAdd, Nat.reduceLeDiff, Nat.reduceSub, reduceIte, Nat.reduceEqDiff, Nat.reduceLT, reduceCtorEq, Nat.reduceMul, Nat.reduceBEq, Int.reduceEq, if_true, if_false, eq_self, ne_eq, env_bT, T_3, T_5, T_9, P29_eq, Var.pv_eq, P32_eq, GEnv.pv_eq, P41_eq, Redir.pv_eq, P152_eq, Cmd.pv_eq, P42_eq, Word.pv_eq, GValue.pv_eq, eqT_3, f13.1, f13.2.1, f13.2.2, pf_31, f16, *, decide_true, decide_false, Decidable.not_not, not_false_eq_true, not_true_eq_false])
      all_goals (first | (simp only [BOOLS]; done) | (simp [*]; done) | ((try simp only [CLOS, beq_iff_eq, bne_iff_ne, ne_eq] at *) <;> omega) | (simp_all; done) | (simp_all <;> omega))
    refine AW.cond (b := (decide (i5 < (s1.length : Int)) && decide (n14 < 0))) rfl (fun hb17 => ?_) (fun hb17 => ?_)
    · replace h := bif_t hb17 h
      refine AW.exit ?_
      refine AW.reg hS [(0, .pv (.str s1)), (1, .pv (.str ifs2)), (5, .vec 0 (List.length l6)), (6, .pv (.int .i64 from4)), (7, .pv (.int .i64 (IntKind.wrap .i64 (i5 + 1))))] [.row 9 1 (List.map PV.str l6) true] ?_ ?_
      · simp -implicitDefEqProofs only [RUNS, qindex, Nat.reduceAdd, Nat.reduceLeDiff, Nat.reduceSub, reduceIte, Nat.reduceEqDiff, Nat.reduceLT, reduceCtorEq, Nat.reduceMul, Nat.reduceBEq, Int.reduceEq, if_true, if_false, eq_self, ne_eq, env_bT, T_3, P29_eq, Var.pv_eq, P32_eq, GEnv.pv_eq, P41_eq, Redir.pv_eq, P152_eq, Cmd.pv_eq, P42_eq, Word.pv_eq, GValue.pv_eq, eqT_3]
      exact ⟨(m9, (from4, IntKind.wrap .i64 (i5 + 1), l6)), h, (Weak.norm (m := 1) (Nat.le_of_ble_eq_true rfl) ⟨rfl, rfl, rfl, rfl, rfl, trivial⟩ rfl rfl rfl), Nat.lt_succ_self _⟩
    · replace h := bif_f hb17 h
      refine AW.skip ?_
      refine AW.seq ?_
      refine AW.seq ?_
      refine AW.reg hS [(0, .pv (.str s1)), (1, .pv (.str ifs2)), (5, .vec 0 (List.length l6)), (6, .pv (.int .i64 from4)), (7, .pv (.int .i64 i5)), (28, .pv (.bool (decide (from4 < i5))))] [.row 9 1 (List.map PV.str l6) true] ?_ ?_
      · simp -implicitDefEqProofs only [RUNS, qindex, Nat.reduceAdd, Nat.reduceLeDiff, Nat.reduceSub, reduceIte, Nat.reduceEqDiff, Nat.reduceLT, reduceCtorEq, Nat.reduceMul, Nat.reduceBEq, Int.reduceEq, if_true, if_false, eq_self, ne_eq, env_bT, T_3, P29_eq, Var.pv_eq, P32_eq, GEnv.pv_eq, P41_eq, Redir.pv_eq, P152_eq, Cmd.pv_eq, P42_eq, Word.pv_eq, GValue.pv_eq, eqT_3]
      refine AW.cond (b := decide (from4 < i5)) rfl (fun hb18 => ?_) (fun hb18 => ?_)
      · replace h := bif_t hb18 h
        replace h := Option.bind_eq_some_iff.1 h; obtain ⟨t19, q20, h⟩ := h
        have f21 := sslice_f q20
        have f21e := f21.2.2.2.2
        try simp only [Int.toNat_natCast, Int.toNat_zero, List.drop_zero] at f21e
        have f21l := f21.2.2.1
        try simp only [Int.toNat_natCast, Int.toNat_zero] at f21l
        replace h := Option.bind_eq_some_iff.1 h; obtain ⟨out22, q23, h⟩ := h
        have f24 := appO_f q23
        try simp only [List.length_cons, List.length_nil, Nat.zero_add, Nat.reduceAdd, Nat.reduceLeDiff, Nat.add_zero, Nat.reduceMul] at f24
        refine AW.reg hS [(0, .pv (.str s1)), (1, .pv (.str ifs2)), (5, .vec 0 (List.length out22)), (7, .pv (.int .i64 i5))] [.row 9 1 (List.map PV.str out22) true] ?_ ?_
        · simp -implicitDefEqProofs only [RUNS, qindex, Nat.reduceAdd, Nat.reduceLeDiff, Nat.reduceSub, reduceIte, Nat.reduceEqDiff, Nat.reduceLT, reduceCtorEq, Nat.reduceMul, Nat.reduceBEq, Int.reduceEq, if_true, if_false, eq_self, ne_eq, env_bT, T_9, T_29, P29_eq, Var.pv_eq, P32_eq, GEnv.pv_eq, P41_eq, Redir.pv_eq, P152_eq, Cmd.pv_eq, P42_eq, Word.pv_eq, GValue.pv_eq, f21.1, f21.2.1, f21l, f21.2.2.2.1, f21e, Int.toNat_natCast, Int.toNat_zero, ownT_29, f24.1, f24.2, str_all] <;> (try simp only [List.length_take, List.length_drop, List.length_map])
        clear f24
        refine AW.reg hS [(0, .pv (.str s1)), (1, .pv (.str ifs2)), (5, .vec 0 (List.length out22)), (6, .pv (.int .i64 (IntKind.wrap .i64 (i5 + 1)))), (7, .pv (.int .i64 i5))] [.row 9 1 (List.map PV.str out22) true] ?_ ?_
        · simp -implicitDefEqProofs only [RUNS, qindex, Nat.reduceAdd, Nat.reduceLeDiff, Nat.reduceSub, reduceIte, Nat.reduceEqDiff, Nat.reduceLT, reduceCtorEq, Nat.reduceMul, Nat.reduceBEq, Int.reduceEq, if_true, if_false, eq_self, ne_eq, env_bT, T_3, P29_eq, Var.pv_eq, P32_eq, GEnv.pv_eq, P41_eq, Redir.pv_eq, P152_eq, Cmd.pv_eq, P42_eq, Word.pv_eq, GValue.pv_eq, eqT_3]
        refine AW.reg hS [(0, .pv (.str s1)), (1, .pv (.str ifs2)), (5, .vec 0 (List.length out22)), (6, .pv (.int .i64 (IntKind.wrap .i64 (i5 + 1)))), (7, .pv (.int .i64 (IntKind.wrap .i64 (i5 + 1))))] [.row 9 1 (List.map PV.str out22) true] ?_ ?_
        · simp -implicitDefEqProofs only [RUNS, qindex, Nat.reduceAdd, Nat.reduceLeDiff, Nat.reduceSub, reduceIte, Nat.reduceEqDiff, Nat.reduceLT, reduceCtorEq, Nat.reduceMul, Nat.reduceBEq, Int.reduceEq, if_true, if_false, eq_self, ne_eq, env_bT, T_3, P29_eq, Var.pv_eq, P32_eq, GEnv.pv_eq, P41_eq, Redir.pv_eq, P152_eq, Cmd.pv_eq, P42_eq, Word.pv_eq, GValue.pv_eq, eqT_3]
        exact ⟨(m9, (IntKind.wrap .i64 (i5 + 1), IntKind.wrap .i64 (i5 + 1), out22)), h, (Weak.norm (m := 1) (Nat.le_of_ble_eq_true rfl) ⟨rfl, rfl, rfl, rfl, rfl, trivial⟩ rfl rfl rfl), Nat.lt_succ_self _⟩
      · replace h := bif_f hb18 h
        refine AW.skip ?_
        refine AW.reg hS [(0, .pv (.str s1)), (1, .pv (.str ifs2)), (5, .vec 0 (List.length l6)), (6, .pv (.int .i64 (IntKind.wrap .i64 (i5 + 1)))), (7, .pv (.int .i64 i5))] [.row 9 1 (List.map PV.str l6) true] ?_ ?_
        · simp -implicitDefEqProofs only [RUNS, qindex, Nat.reduceAdd, Nat.reduceLeDiff, Nat.reduceSub, reduceIte, Nat.reduceEqDiff, Nat.reduceLT, reduceCtorEq, Nat.reduceMul, Nat.reduceBEq, Int.reduceEq, if_true, if_false, eq_self, ne_eq, env_bT, T_3, P29_eq, Var.pv_eq, P32_eq, GEnv.pv_eq, P41_eq, Redir.pv_eq, P152_eq, Cmd.pv_eq, P42_eq, Word.pv_eq, GValue.pv_eq, eqT_3]
        refine AW.reg hS [(0, .pv (.str s1)), (1, .pv (.str ifs2)), (5, .vec 0 (List.length l6)), (6, .pv (.int .i64 (IntKind.wrap .i64 (i5 + 1)))), (7, .pv (.int .i64 (IntKind.wrap .i64 (i5 + 1))))] [.row 9 1 (List.map PV.str l6) true] ?_ ?_
        · simp -implicitDefEqProofs only [RUNS, qindex, Nat.reduceAdd, Nat.reduceLeDiff, Nat.reduceSub, reduceIte, Nat.reduceEqDiff, Nat.reduceLT, reduceCtorEq, Nat.reduceMul, Nat.reduceBEq, Int.reduceEq, if_true, if_false, eq_self, ne_eq, env_bT, T_3, P29_eq, Var.pv_eq, P32_eq, GEnv.pv_eq, P41_eq, Redir.pv_eq, P152_eq, Cmd.pv_eq, P42_eq, Word.pv_eq, GValue.pv_eq, eqT_3]
        exact ⟨(m9, (IntKind.wrap .i64 (i5 + 1), IntKind.wrap .i64 (i5 + 1), l6)), h, (Weak.norm (m := 1) (Nat.le_of_ble_eq_true rfl) ⟨rfl, rfl, rfl, rfl, rfl, trivial⟩ rfl rfl rfl), Nat.lt_succ_self _⟩
  · replace h := bif_f hb10 h
    refine AW.exit ?_
    refine AW.seq ?_
    refine AW.reg hS [(4, .vec 0 (List.length l6))] [.row 9 1 (List.map PV.str l6) true] ?_ ?_
    · simp -implicitDefEqProofs only [RUNS, qindex, Nat.reduceAdd, Nat.reduceLeDiff, Nat.reduceSub, reduceIte, Nat.reduceEqDiff, Nat.reduceLT, reduceCtorEq, Nat.reduceMul, Nat.reduceBEq, Int.reduceEq, if_true, if_false, eq_self, ne_eq, env_bT, P29_eq, Var.pv_eq, P32_eq, GEnv.pv_eq, P41_eq, Redir.pv_eq, P152_eq, Cmd.pv_eq, P42_eq, Word.pv_eq, GValue.pv_eq]
    refine AW.ret ?_
    cases h
    show finish _ _ _ _ _ = _
    first | rfl | (simp [finish, resOf, renArgs, toPV, selObjs, sl])

set_option maxHeartbeats 4000000 in
theorem g_F6 {O : Orc} (hS : Sound env O) (hpf : O.pf = pfn) (c_F16 : C_F16 O) (c_F18 : C_F18 O) (c_F17 : C_F17 O) (c_F19 : C_F19 O) (c_F7 : C_F7 O) (c_F9 : C_F9 O) (c_F10 : C_F10 O)  (r1 : Bool) (h : F6 = some r1) : Good env 6 [] [] [.pv (.bool r1)] [] := by
  have pf_7 : O.pf 7 = true := by rw [hpf]; rfl
  have pf_9 : O.pf 9 = true := by rw [hpf]; rfl
  have pf_10 : O.pf 10 = true := by rw [hpf]; rfl
  have pf_16 : O.pf 16 = true := by rw [hpf]; rfl
  have pf_17 : O.pf 17 = true := by rw [hpf]; rfl
  have pf_18 : O.pf 18 = true := by rw [hpf]; rfl
  have pf_19 : O.pf 19 = true := by rw [hpf]; rfl
  refine Good.start (fn := Tryz.f6) (N := 131) fn_6 rfl rfl (by simp) [] _ rfl rfl ?_
  rw [F6] at h
  refine AW.seq ?_
  refine AW.reg hS [] [] ?_ ?_
  · simp -implicitDefEqProofs only [RUNS, qindex, Nat.reduceAdd, Nat.reduceLeDiff, Nat.reduceSub, reduceIte, Nat.reduceEqDiff, Nat.reduceLT, reduceCtorEq, Nat.reduceMul, Nat.reduceBEq, Int.reduceEq, if_true, if_false, eq_self, ne_eq, env_bT, P29_eq, Var.pv_eq, P32_eq, GEnv.pv_eq, P41_eq, Redir.pv_eq, P152_eq, Cmd.pv_eq, P42_eq, Word.pv_eq, GValue.pv_eq]
  refine AW.seq ?_
  refine AW.reg hS [(1, .ref 0 0)] [.var [.pv (.int .i64 2), .pv (.str [120]), .pv (.str []), .pv (.slice (List.map Word.pv [])), .pv (.slice (List.map Cmd.pv []))]] ?_ ?_
  · simp -implicitDefEqProofs only [RUNS, qindex, Nat.reduceAdd, Nat.reduceLeDiff, Nat.reduceSub, reduceIte, Nat.reduceEqDiff, Nat.reduceLT, reduceCtorEq, Nat.reduceMul, Nat.reduceBEq, Int.reduceEq, if_true, if_false, eq_self, ne_eq, env_bT, T_44, P29_eq, Var.pv_eq, P32_eq, GEnv.pv_eq, P41_eq, Redir.pv_eq, P152_eq, Cmd.pv_eq, P42_eq, Word.pv_eq, GValue.pv_eq, ownT_44]
  refine AW.seq ?_
  replace h := Option.bind_eq_some_iff.1 h; obtain ⟨⟨r2, r3⟩, q4, h⟩ := h
  dsimp only at h
  have f5 := c_F16 [[97], [98]] [[49], [50]] r2 r3 q4
  try dsimp only at f5
  try simp only [List.map_cons, List.map_nil, P29_eq, Var.pv_eq, P32_eq, GEnv.pv_eq, P41_eq, Redir.pv_eq, P152_eq, Cmd.pv_eq, P42_eq, Word.pv_eq, GValue.pv_eq] at f5
  refine AW.reg hS [(1, .ref 0 0), (2, .pv (.slice (List.map PV.str r2))), (3, .pv (.int .i64 r3))] [.var [.pv (.int .i64 2), .pv (.str [120]), .pv (.str []), .pv (.slice (List.map Word.pv [])), .pv (.slice (List.map Cmd.pv []))]] ?_ ?_
  · simp -implicitDefEqProofs only [RUNS, qindex, Nat.reduceAdd, Nat.reduceLeDiff, Nat.reduceSub, reduceIte, Nat.reduceEqDiff, Nat.reduceLT, reduceCtorEq, Nat.reduceMul, Nat.reduceBEq, Int.reduceEq, if_true, if_false, eq_self, ne_eq, env_bT, T_9, T_29, P29_eq, Var.pv_eq, P32_eq, GEnv.pv_eq, P41_eq, Redir.pv_eq, P152_eq, Cmd.pv_eq, P42_eq, Word.pv_eq, GValue.pv_eq, ownT_29, pf_16, f5]
  refine AW.seq ?_
  replace h := Option.bind_eq_some_iff.1 h; obtain ⟨⟨r6, r7⟩, q8, h⟩ := h
  dsimp only at h
  have f9 := c_F16 [[97]] [] r6 r7 q8
  try dsimp only at f9
  try simp only [List.map_cons, List.map_nil, P29_eq, Var.pv_eq, P32_eq, GEnv.pv_eq, P41_eq, Redir.pv_eq, P152_eq, Cmd.pv_eq, P42_eq, Word.pv_eq, GValue.pv_eq] at f9
  refine AW.reg hS [(1, .ref 0 0), (2, .pv (.slice (List.map PV.str r2))), (3, .pv (.int .i64 r3)), (5, .pv (.int .i64 r7))] [.var [.pv (.int .i64 2), .pv (.str [120]), .pv (.str []), .pv (.slice (List.map Word.pv [])), .pv (.slice (List.map Cmd.pv []))]] ?_ ?_
  · simp -implicitDefEqProofs only [RUNS, qindex, Nat.reduceAdd, Nat.reduceLeDiff, Nat.reduceSub, reduceIte, Nat.reduceEqDiff, Nat.reduceLT, reduceCtorEq, Nat.reduceMul, Nat.reduceBEq, Int.reduceEq, if_true, if_false, eq_self, ne_eq, env_bT, T_9, T_29, P29_eq, Var.pv_eq, P32_eq, GEnv.pv_eq, P41_eq, Redir.pv_eq, P152_eq, Cmd.pv_eq, P42_eq, Word.pv_eq, GValue.pv_eq, ownT_29, pf_16, f9]
  refine AW.seq ?_
  replace h := Option.bind_eq_some_iff.1 h; obtain ⟨r10, q11, h⟩ := h
  have f12 := c_F18 r10 q11
  try dsimp only at f12
  replace h := Option.bind_eq_some_iff.1 h; obtain ⟨⟨r13, r14, r15⟩, q16, h⟩ := h
  dsimp only at h
  have f17 := c_F17 r10 1 (Word.mk 4 [] [] [Word.mk 1 [97] [48] [] [], Word.mk 2 [120] [] [] []] []) r13 r14 r15 q16
  try dsimp only at f17
  try simp only [List.map_cons, List.map_nil, P29_eq, Var.pv_eq, P32_eq, GEnv.pv_eq, P41_eq, Redir.pv_eq, P152_eq, Cmd.pv_eq, P42_eq, Word.pv_eq, GValue.pv_eq] at f17
  refine AW.dreg mixed hS (hpf ▸ (by kernel_rfl : orderOK pfn _ = true)) [(2, .pv (.slice (List.map PV.str r2))), (3, .pv (.int .i64 r3)), (5, .pv (.int .i64 r7)), (6, .pv (.slice (List.map PV.str r13))), (7, .pv (.slice (List.map PV.str r14))), (8, .pv (.int .i64 r15))] [.var [.pv (.int .i64 2), .pv (.str [120]), .pv (.str []), .pv (.slice (List.map Word.pv [])), .pv (.slice (List.map Cmd.pv []))]] ?_ ?_
  · simp -implicitDefEqProofs only [RUNS, qindex, Nat.reduceAdd, Nat.reduceLeDiff, Nat.reduceSub, reduceIte, Nat.reduceEqDiff, Nat.reduceLT, reduceCtorEq, Nat.reduceMul, Nat.reduceBEq, Int.reduceEq, if_true, if_false, eq_self, ne_eq, env_bT, T_3, T_22, T_34, T_41, T_44, P29_eq, Var.pv_eq, P32_eq, GEnv.pv_eq, P41_eq, Redir.pv_eq, P152_eq, Cmd.pv_eq, P42_eq, Word.pv_eq, GValue.pv_eq, pf_18, f12, ownT_44, ownT_41, pf_17, f17]
  refine AW.seq ?_
  replace h := Option.bind_eq_some_iff.1 h; obtain ⟨⟨r18, r19, r20⟩, q21, h⟩ := h
  dsimp only at h
  have f22 := c_F17 r10 1 (Word.mk 3 [42] [] [] []) r18 r19 r20 q21
  try dsimp only at f22
  try simp only [List.map_cons, List.map_nil, P29_eq, Var.pv_eq, P32_eq, GEnv.pv_eq, P41_eq, Redir.pv_eq, P152_eq, Cmd.pv_eq, P42_eq, Word.pv_eq, GValue.pv_eq] at f22
  refine AW.reg hS [(2, .pv (.slice (List.map PV.str r2))), (3, .pv (.int .i64 r3)), (5, .pv (.int .i64 r7)), (6, .pv (.slice (List.map PV.str r13))), (7, .pv (.slice (List.map PV.str r14))), (8, .pv (.int .i64 r15)), (9, .pv (.slice (List.map PV.str r18))), (11, .pv (.int .i64 r20))] [.var [.pv (.int .i64 2), .pv (.str [120]), .pv (.str []), .pv (.slice (List.map Word.pv [])), .pv (.slice (List.map Cmd.pv []))]] ?_ ?_
  · simp -implicitDefEqProofs only [RUNS, qindex, Nat.reduceAdd, Nat.reduceLeDiff, Nat.reduceSub, reduceIte, Nat.reduceEqDiff, Nat.reduceLT, reduceCtorEq, Nat.reduceMul, Nat.reduceBEq, Int.reduceEq, if_true, if_false, eq_self, ne_eq, env_bT, T_3, T_22, T_34, T_44, P29_eq, Var.pv_eq, P32_eq, GEnv.pv_eq, P41_eq, Redir.pv_eq, P152_eq, Cmd.pv_eq, P42_eq, Word.pv_eq, GValue.pv_eq, pf_18, f12, ownT_44, pf_17, f22]
  refine AW.seq ?_
  replace h := Option.bind_eq_some_iff.1 h; obtain ⟨⟨r23, r24, r25⟩, q26, h⟩ := h
  dsimp only at h
  have f27 := c_F17 r10 1 (Word.mk 2 [50] [] [] []) r23 r24 r25 q26
  try dsimp only at f27
  try simp only [List.map_cons, List.map_nil, P29_eq, Var.pv_eq, P32_eq, GEnv.pv_eq, P41_eq, Redir.pv_eq, P152_eq, Cmd.pv_eq, P42_eq, Word.pv_eq, GValue.pv_eq] at f27
  refine AW.reg hS [(2, .pv (.slice (List.map PV.str r2))), (3, .pv (.int .i64 r3)), (5, .pv (.int .i64 r7)), (6, .pv (.slice (List.map PV.str r13))), (7, .pv (.slice (List.map PV.str r14))), (8, .pv (.int .i64 r15)), (9, .pv (.slice (List.map PV.str r18))), (11, .pv (.int .i64 r20)), (12, .pv (.slice (List.map PV.str r23))), (14, .pv (.int .i64 r25))] [.var [.pv (.int .i64 2), .pv (.str [120]), .pv (.str []), .pv (.slice (List.map Word.pv [])), .pv (.slice (List.map Cmd.pv []))]] ?_ ?_
  · simp -implicitDefEqProofs only [RUNS, qindex, Nat.reduceAdd, Nat.reduceLeDiff, Nat.reduceSub, reduceIte, Nat.reduceEqDiff, Nat.reduceLT, reduceCtorEq, Nat.reduceMul, Nat.reduceBEq, Int.reduceEq, if_true, if_false, eq_self, ne_eq, env_bT, T_3, T_22, T_34, T_44, P29_eq, Var.pv_eq, P32_eq, GEnv.pv_eq, P41_eq, Redir.pv_eq, P152_eq, Cmd.pv_eq, P42_eq, Word.pv_eq, GValue.pv_eq, pf_18, f12, ownT_44, pf_17, f27]
  refine AW.seq ?_
  replace h := Option.bind_eq_some_iff.1 h; obtain ⟨⟨r28, r29⟩, q30, h⟩ := h
  dsimp only at h
  have f31 := c_F19 [[97], [98], [99]] [[51], [49], [55]] r28 r29 q30
  try dsimp only at f31
  try simp only [List.map_cons, List.map_nil, P29_eq, Var.pv_eq, P32_eq, GEnv.pv_eq, P41_eq, Redir.pv_eq, P152_eq, Cmd.pv_eq, P42_eq, Word.pv_eq, GValue.pv_eq] at f31
  refine AW.reg hS [(2, .pv (.slice (List.map PV.str r2))), (3, .pv (.int .i64 r3)), (5, .pv (.int .i64 r7)), (6, .pv (.slice (List.map PV.str r13))), (7, .pv (.slice (List.map PV.str r14))), (8, .pv (.int .i64 r15)), (9, .pv (.slice (List.map PV.str r18))), (11, .pv (.int .i64 r20)), (12, .pv (.slice (List.map PV.str r23))), (14, .pv (.int .i64 r25)), (15, .pv (.slice (List.map PV.str r28))), (16, .pv (.int .i64 r29))] [.var [.pv (.int .i64 2), .pv (.str [120]), .pv (.str []), .pv (.slice (List.map Word.pv [])), .pv (.slice (List.map Cmd.pv []))]] ?_ ?_
  · simp -implicitDefEqProofs only [RUNS, qindex, Nat.reduceAdd, Nat.reduceLeDiff, Nat.reduceSub, reduceIte, Nat.reduceEqDiff, Nat.reduceLT, reduceCtorEq, Nat.reduceMul, Nat.reduceBEq, Int.reduceEq, if_true, if_false, eq_self, ne_eq, env_bT, T_9, T_29, P29_eq, Var.pv_eq, P32_eq, GEnv.pv_eq, P41_eq, Redir.pv_eq, P152_eq, Cmd.pv_eq, P42_eq, Word.pv_eq, GValue.pv_eq, ownT_29, pf_19, f31]
  refine AW.seq ?_
  replace h := Option.bind_eq_some_iff.1 h; obtain ⟨⟨r32, r33⟩, q34, h⟩ := h
  dsimp only at h
  have f35 := c_F7 r10 1 [97, 36, 120, 94, 98, 36, 36, 32, 36] r32 r33 q34
  try dsimp only at f35
  try simp only [List.map_cons, List.map_nil, P29_eq, Var.pv_eq, P32_eq, GEnv.pv_eq, P41_eq, Redir.pv_eq, P152_eq, Cmd.pv_eq, P42_eq, Word.pv_eq, GValue.pv_eq] at f35
  refine AW.reg hS [(2, .pv (.slice (List.map PV.str r2))), (3, .pv (.int .i64 r3)), (5, .pv (.int .i64 r7)), (6, .pv (.slice (List.map PV.str r13))), (7, .pv (.slice (List.map PV.str r14))), (8, .pv (.int .i64 r15)), (9, .pv (.slice (List.map PV.str r18))), (11, .pv (.int .i64 r20)), (12, .pv (.slice (List.map PV.str r23))), (14, .pv (.int .i64 r25)), (15, .pv (.slice (List.map PV.str r28))), (16, .pv (.int .i64 r29)), (17, .pv (.str r32)), (18, .pv (.int .i64 r33))] [.var [.pv (.int .i64 2), .pv (.str [120]), .pv (.str []), .pv (.slice (List.map Word.pv [])), .pv (.slice (List.map Cmd.pv []))]] ?_ ?_
  · simp -implicitDefEqProofs only [RUNS, qindex, Nat.reduceAdd, Nat.reduceLeDiff, Nat.reduceSub, reduceIte, Nat.reduceEqDiff, Nat.reduceLT, reduceCtorEq, Nat.reduceMul, Nat.reduceBEq, Int.reduceEq, if_true, if_false, eq_self, ne_eq, env_bT, T_3, T_9, T_22, T_34, P29_eq, Var.pv_eq, P32_eq, GEnv.pv_eq, P41_eq, Redir.pv_eq, P152_eq, Cmd.pv_eq, P42_eq, Word.pv_eq, GValue.pv_eq, pf_18, f12, pf_7, f35]
  refine AW.seq ?_
  replace h := Option.bind_eq_some_iff.1 h; obtain ⟨r36, q37, h⟩ := h
  have f38 := c_F9 r2 [[97, 49], [98, 50]] r36 q37
  try dsimp only at f38
  try simp only [List.map_cons, List.map_nil, P29_eq, Var.pv_eq, P32_eq, GEnv.pv_eq, P41_eq, Redir.pv_eq, P152_eq, Cmd.pv_eq, P42_eq, Word.pv_eq, GValue.pv_eq] at f38
  replace h := Option.bind_eq_some_iff.1 h; obtain ⟨r39, q40, h⟩ := h
  have f41 := fun hg => c_F9 r13 [[97, 49], [97, 50]] r39 (guardO_t q40 hg)
  try dsimp only at f41
  try simp only [List.map_cons, List.map_nil, P29_eq, Var.pv_eq, P32_eq, GEnv.pv_eq, P41_eq, Redir.pv_eq, P152_eq, Cmd.pv_eq, P42_eq, Word.pv_eq, GValue.pv_eq] at f41
  replace h := Option.bind_eq_some_iff.1 h; obtain ⟨r42, q43, h⟩ := h
  have f44 := fun hg => c_F9 r14 [[48, 49], [48, 49]] r42 (guardO_t q43 hg)
  try dsimp only at f44
  try simp only [List.map_cons, List.map_nil, P29_eq, Var.pv_eq, P32_eq, GEnv.pv_eq, P41_eq, Redir.pv_eq, P152_eq, Cmd.pv_eq, P42_eq, Word.pv_eq, GValue.pv_eq] at f44
  replace h := Option.bind_eq_some_iff.1 h; obtain ⟨r45, q46, h⟩ := h
  have f47 := fun hg => c_F9 r18 [[51]] r45 (guardO_t q46 hg)
  try dsimp only at f47
  try simp only [List.map_cons, List.map_nil, P29_eq, Var.pv_eq, P32_eq, GEnv.pv_eq, P41_eq, Redir.pv_eq, P152_eq, Cmd.pv_eq, P42_eq, Word.pv_eq, GValue.pv_eq] at f47
  replace h := Option.bind_eq_some_iff.1 h; obtain ⟨r48, q49, h⟩ := h
  have f50 := fun hg => c_F9 r23 [[98]] r48 (guardO_t q49 hg)
  try dsimp only at f50
  try simp only [List.map_cons, List.map_nil, P29_eq, Var.pv_eq, P32_eq, GEnv.pv_eq, P41_eq, Redir.pv_eq, P152_eq, Cmd.pv_eq, P42_eq, Word.pv_eq, GValue.pv_eq] at f50
  replace h := Option.bind_eq_some_iff.1 h; obtain ⟨r51, q52, h⟩ := h
  have f53 := fun hg => c_F9 r28 [[99], [97]] r51 (guardO_t q52 hg)
  try dsimp only at f53
  try simp only [List.map_cons, List.map_nil, P29_eq, Var.pv_eq, P32_eq, GEnv.pv_eq, P41_eq, Redir.pv_eq, P152_eq, Cmd.pv_eq, P42_eq, Word.pv_eq, GValue.pv_eq] at f53
  replace h := Option.bind_eq_some_iff.1 h; obtain ⟨r54, q55, h⟩ := h
  have f56 := fun hg => c_F10 [32, 97, 32, 32, 98, 99] [32] r54 (guardO_t q55 hg)
  try dsimp only at f56
  try simp only [List.map_cons, List.map_nil, P29_eq, Var.pv_eq, P32_eq, GEnv.pv_eq, P41_eq, Redir.pv_eq, P152_eq, Cmd.pv_eq, P42_eq, Word.pv_eq, GValue.pv_eq] at f56
  replace h := Option.bind_eq_some_iff.1 h; obtain ⟨r57, q58, h⟩ := h
  have f59 := fun hg => c_F9 r54 [[97], [98, 99]] r57 (guardO_t q58 hg)
  try dsimp only at f59
  try simp only [List.map_cons, List.map_nil, P29_eq, Var.pv_eq, P32_eq, GEnv.pv_eq, P41_eq, Redir.pv_eq, P152_eq, Cmd.pv_eq, P42_eq, Word.pv_eq, GValue.pv_eq] at f59
  refine AW.reg hS [(0, .pv (.bool ((((((((((((((r36 && decide (r3 = 0)) && decide (r7 = 1)) && r39) && r42) && decide (r15 = 0)) && r45) && decide (r20 = 0)) && r48) && decide (r25 = 0)) && r51) && decide (r29 = 0)) && decide (r32 = [97, 49, 32, 50, 98, 36, 32, 36])) && decide (r33 = 0)) && r57)))] [.var [.pv (.int .i64 2), .pv (.str [120]), .pv (.str []), .pv (.slice (List.map Word.pv [])), .pv (.slice (List.map Cmd.pv []))]] ?_ ?_
  · clear h
    (simp -implicitDefEqProofs only [RUNS, qindex, Nat.reduceAdd, Nat.reduceLeDiff, Nat.reduceSub, reduceIte, Nat.reduceEqDiff, Nat.reduceLT, reduceCtorEq, Nat.reduceMul, Nat.reduceBEq, Int.reduceEq, if_true, if_false, eq_self, ne_eq, env_bT, T_9, T_25, T_29, P29_eq, Var.pv_eq, P32_eq, GEnv.pv_eq, P41_eq, Redir.pv_eq, P152_eq, Cmd.pv_eq, P42_eq, Word.pv_eq, GValue.pv_eq, ownT_29, pf_9, f38, eqT_25, f41, f44, f47, f50, f53, eqT_9, pf_10, f56, f59]); repeat' (split <;> rename_i hb <;> (try simp only [HBS, ge_iff_le, gt_iff_lt] at hb) <;> simp -implicitDefEqProofs only [RUNS, qindex, Nat.reduceAdd, Nat.reduceLeDiff, Nat.reduceSub, reduceIte, Nat.reduceEqDiff, Nat.reduceLT, reduceCtorEq, Nat.reduceMul, Nat.reduceBEq, Int.reduceEq, if_true, if_false, eq_self, ne_eq, env_bT, T_9, T_25, T_29, P29_eq, Var.pv_eq, P32_eq, GEnv.pv_eq, P41_eq, Redir.pv_eq, P152_eq, Cmd.pv_eq, P42_eq, Word.pv_eq, GValue.pv_eq, ownT_29, pf_9, f38, eqT_25, f41, f44, f47, f50, f53, eqT_9, pf_10, f56, f59, *, decide_true, decide_false, Decidable.not_not, not_false_eq_true, not_true_eq_false])
    all_goals (first | (simp only [BOOLS]; done) | (simp [*]; done) | ((try simp only [CLOS, beq_iff_eq, bne_iff_ne, ne_eq] at *) <;> omega) | (simp_all; done) | (simp_all <;> omega))
  refine AW.ret ?_
  cases h
  show finish _ _ _ _ _ = _
  first | rfl | (simp [finish, resOf, renArgs, toPV, selObjs, sl])

set_option maxHeartbeats 4000000 in
theorem g_F29 {O : Orc} (hS : Sound env O) (hpf : O.pf = pfn) (c1 : Int) (r2 : Bool) (h : F29 c1 = some r2) : Good env 29 [.pv (.int .u8 c1)] [] [.pv (.bool r2)] [] := by
  refine Good.start (fn := Tryz.f29) (N := 33) fn_29 rfl rfl (by simp) [] _ rfl rfl ?_
  rw [F29] at h
  refine AW.seq ?_
  refine AW.reg hS [(0, .pv (.int .u8 c1))] [] ?_ ?_
  · simp -implicitDefEqProofs only [RUNS, qindex, Nat.reduceAdd, Nat.reduceLeDiff, Nat.reduceSub, reduceIte, Nat.reduceEqDiff, Nat.reduceLT, reduceCtorEq, Nat.reduceMul, Nat.reduceBEq, Int.reduceEq, if_true, if_false, eq_self, ne_eq, env_bT, P29_eq, Var.pv_eq, P32_eq, GEnv.pv_eq, P41_eq, Redir.pv_eq, P152_eq, Cmd.pv_eq, P42_eq, Word.pv_eq, GValue.pv_eq]
  refine AW.seq ?_
  refine AW.reg hS [(2, .pv (.bool (((((decide (97 ≤ c1) && decide (c1 ≤ 122)) || (decide (65 ≤ c1) && decide (c1 ≤ 90))) || (decide (48 ≤ c1) && decide (c1 ≤ 57))) || decide (c1 = 95)) || decide (c1 = 42))))] [] ?_ ?_
  · clear h
    (simp -implicitDefEqProofs only [RUNS, qindex, Nat.reduceAdd, Nat.reduceLeDiff, Nat.reduceSub, reduceIte, Nat.reduceEqDiff, Nat.reduceLT, reduceCtorEq, Nat.reduceMul, Nat.reduceBEq, Int.reduceEq, if_true, if_false, eq_self, ne_eq, env_bT, T_5, P29_eq, Var.pv_eq, P32_eq, GEnv.pv_eq, P41_eq, Redir.pv_eq, P152_eq, Cmd.pv_eq, P42_eq, Word.pv_eq, GValue.pv_eq, eqT_5]); repeat' (split <;> rename_i hb <;> (try simp only [HBS, ge_iff_le, gt_iff_lt] at hb) <;> simp -implicitDefEqProofs only [RUNS, qindex, Nat.reduceAdd, Nat.reduceLeDiff, Nat.reduceSub, reduceIte, Nat.reduceEqDiff, Nat.reduceLT, reduceCtorEq, Nat.reduceMul, Nat.reduceBEq, Int.reduceEq, if_true, if_false, eq_self, ne_eq, env_bT, T_5, P29_eq, Var.pv_eq, P32_eq, GEnv.pv_eq, P41_eq, Redir.pv_eq, P152_eq, Cmd.pv_eq, P42_eq, Word.pv_eq, GValue.pv_eq, eqT_5, *, decide_true, decide_false, Decidable.not_not, not_false_eq_true, not_true_eq_false])
    all_goals (first | (simp only [BOOLS]; done) | (simp [*]; done) | ((try simp only [CLOS, beq_iff_eq, bne_iff_ne, ne_eq] at *) <;> omega) | (simp_all; done) | (simp_all <;> omega))
  refine AW.ret ?_
  cases h
  show finish _ _ _ _ _ = _
  first | rfl | (simp [finish, resOf, renArgs, toPV, selObjs, sl])

set_option maxHeartbeats 4000000 in
theorem g_F44 {O : Orc} (hS : Sound env O) (hpf : O.pf = pfn) (s1 : Str) (r2 : Int) (r3 : Bool) (h : F44 s1 = some (r2, r3)) : Good env 44 [.pv (.str s1)] [] [.pv (.int .i64 r2), .pv (.bool r3)] [] := by
  refine Good.start (fn := Tryz.f44) (N := 51) fn_44 rfl rfl (by simp) [] _ rfl rfl ?_
  rw [F44] at h
  refine AW.seq ?_
  refine AW.reg hS [(0, .pv (.str s1))] [] ?_ ?_
  · simp -implicitDefEqProofs only [RUNS, qindex, Nat.reduceAdd, Nat.reduceLeDiff, Nat.reduceSub, reduceIte, Nat.reduceEqDiff, Nat.reduceLT, reduceCtorEq, Nat.reduceMul, Nat.reduceBEq, Int.reduceEq, if_true, if_false, eq_self, ne_eq, env_bT, P29_eq, Var.pv_eq, P32_eq, GEnv.pv_eq, P41_eq, Redir.pv_eq, P152_eq, Cmd.pv_eq, P42_eq, Word.pv_eq, GValue.pv_eq]
  refine AW.seq ?_
  refine AW.reg hS [(0, .pv (.str s1)), (4, .pv (.int .i64 0))] [] ?_ ?_
  · simp -implicitDefEqProofs only [RUNS, qindex, Nat.reduceAdd, Nat.reduceLeDiff, Nat.reduceSub, reduceIte, Nat.reduceEqDiff, Nat.reduceLT, reduceCtorEq, Nat.reduceMul, Nat.reduceBEq, Int.reduceEq, if_true, if_false, eq_self, ne_eq, env_bT, P29_eq, Var.pv_eq, P32_eq, GEnv.pv_eq, P41_eq, Redir.pv_eq, P152_eq, Cmd.pv_eq, P42_eq, Word.pv_eq, GValue.pv_eq]
  refine AW.seq ?_
  refine AW.seq ?_
  refine AW.reg hS [(0, .pv (.str s1)), (4, .pv (.int .i64 0)), (5, .pv (.int .i64 0))] [] ?_ ?_
  · simp -implicitDefEqProofs only [RUNS, qindex, Nat.reduceAdd, Nat.reduceLeDiff, Nat.reduceSub, reduceIte, Nat.reduceEqDiff, Nat.reduceLT, reduceCtorEq, Nat.reduceMul, Nat.reduceBEq, Int.reduceEq, if_true, if_false, eq_self, ne_eq, env_bT, P29_eq, Var.pv_eq, P32_eq, GEnv.pv_eq, P41_eq, Redir.pv_eq, P152_eq, Cmd.pv_eq, P42_eq, Word.pv_eq, GValue.pv_eq]
  refine AW.block ?_
  refine AW.weak (Weak.slots (L := [(0, .pv (.str s1)), (4, .pv (.int .i64 0)), (5, .pv (.int .i64 0))]) ⟨rfl, rfl, rfl, trivial⟩) ?_
  refine AW.loopI (α := Nat × Int × Int) (fun (_, n4, i5) => ⟨sl [(0, .pv (.str s1)), (4, .pv (.int .i64 n4)), (5, .pv (.int .i64 i5))], 51, []⟩) (fun x => iter (F44_b1 s1) x.1 x.2 = some (r2, r3)) (fun x => x.1) (BIG, (0, 0)) h ?_
  clear h
  intro ⟨n17, n4, i5⟩ h
  replace h := iter_some h; obtain ⟨m8, rfl, h⟩ := h
  rw [F44_b1] at h
  try dsimp only at h
  show AW _ _ _ _ ⟨sl [(0, .pv (.str s1)), (4, .pv (.int .i64 n4)), (5, .pv (.int .i64 i5))], 51, []⟩
  refine AW.seq ?_
  refine AW.seq ?_
  refine AW.reg hS [(0, .pv (.str s1)), (4, .pv (.int .i64 n4)), (5, .pv (.int .i64 i5)), (13, .pv (.bool (decide (i5 < (s1.length : Int)) && decide (i5 < 4))))] [] ?_ ?_
  · clear h
    (simp -implicitDefEqProofs only [RUNS, qindex, Nat.reduceAdd, Nat.reduceLeDiff, Nat.reduceSub, reduceIte, Nat.reduceEqDiff, Nat.reduceLT, reduceCtorEq, Nat.reduceMul, Nat.reduceBEq, Int.reduceEq, if_true, if_false, eq_self, ne_eq, env_bT, T_3, T_9, P29_eq, Var.pv_eq, P32_eq, GEnv.pv_eq, P41_eq, Redir.pv_eq, P152_eq, Cmd.pv_eq, P42_eq, Word.pv_eq, GValue.pv_eq, eqT_3]); repeat' (split <;> rename_i hb <;> (try simp only [HBS, ge_iff_le, gt_iff_lt] at hb) <;> simp -implicitDefEqProofs only [RUNS, qindex, Nat.reduceAdd, Nat.reduceLeDiff, Nat.reduceSub, reduceIte, Nat.reduceEqDiff, Nat.reduceLT, reduceCtorEq, Nat.reduceMul, Nat.reduceBEq, Int.reduceEq, if_true, if_false, eq_self, ne_eq, env_bT, T_3, T_9, P29_eq, Var.pv_eq, P32_eq, GEnv.pv_eq, P41_eq, Redir.pv_eq, P152_eq, Cmd.pv_eq, P42_eq, Word.pv_eq, GValue.pv_eq, eqT_3, *, decide_true, decide_false, Decidable.not_not, not_false_eq_true, not_true_eq_false])
    all_goals (first | (simp only [BOOLS]; done) | (simp [*]; done) | ((try simp only [CLOS, beq_iff_eq, bne_iff_ne, ne_eq] at *) <;> omega) | (simp_all; done) | (simp_all <;> omega))
  refine AW.cond (b := (decide (i5 < (s1.length : Int)) && decide (i5 < 4))) rfl (fun hb9 => ?_) (fun hb9 => ?_)
  · replace h := bif_t hb9 h
    refine AW.skip ?_
    refine AW.seq ?_
    refine AW.block ?_
    refine AW.seq ?_
    refine AW.seq ?_
    replace h := Option.bind_eq_some_iff.1 h; obtain ⟨c10, q11, h⟩ := h
    have f12 := sidx_f q11
    refine AW.reg hS [(0, .pv (.str s1)), (4, .pv (.int .i64 n4)), (5, .pv (.int .i64 i5)), (25, .pv (.bool (decide (c10 < 48) || decide (57 < c10))))] [] ?_ ?_
    · clear h
      (simp -implicitDefEqProofs only [RUNS, qindex, Nat.reduceAdd, Nat.reduceLeDiff, Nat.reduceSub, reduceIte, Nat.reduceEqDiff, Nat.reduceLT, reduceCtorEq, Nat.reduceMul, Nat.reduceBEq, Int.reduceEq, if_true, if_false, eq_self, ne_eq, env_bT, T_5, T_9, P29_eq, Var.pv_eq, P32_eq, GEnv.pv_eq, P41_eq, Redir.pv_eq, P152_eq, Cmd.pv_eq, P42_eq, Word.pv_eq, GValue.pv_eq, f12.1, f12.2.1, f12.2.2, eqT_5]); repeat' (split <;> rename_i hb <;> (try simp only [HBS, ge_iff_le, gt_iff_lt] at hb) <;> simp -implicitDefEqProofs only [RUNS, qindex, Nat.reduceAdd, Nat.reduceLeDiff, Nat.reduceSub, reduceIte, Nat.reduceEqDiff, Nat.reduceLT, reduceCtorEq, Nat.reduceMul, Nat.reduceBEq, Int.reduceEq, if_true, if_false, eq_self, ne_eq, env_bT, T_5, T_9, P29_eq, Var.pv_eq, P32_eq, GEnv.pv_eq, P41_eq, Redir.pv_eq, P152_eq, Cmd.pv_eq, P42_eq, Word.pv_eq, GValue.pv_eq, f12.1, f12.2.1, f12.2.2, eqT_5, *, decide_true, decide_false, Decidable.not_not, not_false_eq_true, not_true_eq_false])
      all_goals (first | (simp only [BOOLS]; done) | (simp [*]; done) | ((try simp only [CLOS, beq_iff_eq, bne_iff_ne, ne_eq] at *) <;> omega) | (simp_all; done) | (simp_all <;> omega))
    refine AW.cond (b := (decide (c10 < 48) || decide (57 < c10))) rfl (fun hb13 => ?_) (fun hb13 => ?_)
    · replace h := bif_t hb13 h
      refine AW.seq ?_
      refine AW.reg hS [(2, .pv (.int .i64 0)), (3, .pv (.bool false))] [] ?_ ?_
      · simp -implicitDefEqProofs only [RUNS, qindex, Nat.reduceAdd, Nat.reduceLeDiff, Nat.reduceSub, reduceIte, Nat.reduceEqDiff, Nat.reduceLT, reduceCtorEq, Nat.reduceMul, Nat.reduceBEq, Int.reduceEq, if_true, if_false, eq_self, ne_eq, env_bT, P29_eq, Var.pv_eq, P32_eq, GEnv.pv_eq, P41_eq, Redir.pv_eq, P152_eq, Cmd.pv_eq, P42_eq, Word.pv_eq, GValue.pv_eq]
      refine AW.ret ?_
      cases h
      show finish _ _ _ _ _ = _
      first | rfl | (simp [finish, resOf, renArgs, toPV, selObjs, sl])
    · replace h := bif_f hb13 h
      refine AW.skip ?_
      refine AW.reg hS [(0, .pv (.str s1)), (4, .pv (.int .i64 (IntKind.wrap .i64 ((IntKind.wrap .i64 (10 * n4)) + (IntKind.wrap .i64 (IntKind.wrap .u8 (c10 - 48))))))), (5, .pv (.int .i64 i5))] [] ?_ ?_
      · simp -implicitDefEqProofs only [RUNS, qindex, Nat.reduceAdd, Nat.reduceLeDiff, Nat.reduceSub, reduceIte, Nat.reduceEqDiff, Nat.reduceLT, reduceCtorEq, Nat.reduceMul, Nat.reduceBEq, Int.reduceEq, if_true, if_false, eq_self, ne_eq, env_bT, T_3, T_5, T_9, P29_eq, Var.pv_eq, P32_eq, GEnv.pv_eq, P41_eq, Redir.pv_eq, P152_eq, Cmd.pv_eq, P42_eq, Word.pv_eq, GValue.pv_eq, eqT_3, f12.1, f12.2.1, f12.2.2, eqT_5, qconv_ii T_5 T_3]
      refine AW.reg hS [(0, .pv (.str s1)), (4, .pv (.int .i64 (IntKind.wrap .i64 ((IntKind.wrap .i64 (10 * n4)) + (IntKind.wrap .i64 (IntKind.wrap .u8 (c10 - 48))))))), (5, .pv (.int .i64 (IntKind.wrap .i64 (i5 + 1))))] [] ?_ ?_
      · simp -implicitDefEqProofs only [RUNS, qindex, Nat.reduceAdd, Nat.reduceLeDiff, Nat.reduceSub, reduceIte, Nat.reduceEqDiff, Nat.reduceLT, reduceCtorEq, Nat.reduceMul, Nat.reduceBEq, Int.reduceEq, if_true, if_false, eq_self, ne_eq, env_bT, T_3, P29_eq, Var.pv_eq, P32_eq, GEnv.pv_eq, P41_eq, Redir.pv_eq, P152_eq, Cmd.pv_eq, P42_eq, Word.pv_eq, GValue.pv_eq, eqT_3]
      exact ⟨(m8, (IntKind.wrap .i64 ((IntKind.wrap .i64 (10 * n4)) + (IntKind.wrap .i64 (IntKind.wrap .u8 (c10 - 48)))), IntKind.wrap .i64 (i5 + 1))), h, (Weak.norm (m := 0) (Nat.le_of_ble_eq_true rfl) ⟨rfl, rfl, rfl, trivial⟩ rfl rfl rfl), Nat.lt_succ_self _⟩
  · replace h := bif_f hb9 h
    refine AW.exit ?_
    refine AW.seq ?_
    replace h := Option.bind_eq_some_iff.1 h; obtain ⟨c14, q15, h⟩ := h
    have f16 := sidx_g (guardO_t q15)
    refine AW.dreg mixed hS (hpf ▸ (by kernel_rfl : orderOK pfn _ = true)) [(2, .pv (.int .i64 n4)), (3, .pv (.bool (((decide (1 ≤ n4) && decide (n4 ≤ 256)) && decide ((s1.length : Int) < 4)) && !decide (c14 = 48))))] [] ?_ ?_
    · clear h
      (simp -implicitDefEqProofs only [RUNS, qindex, Nat.reduceAdd, Nat.reduceLeDiff, Nat.reduceSub, reduceIte, Nat.reduceEqDiff, Nat.reduceLT, reduceCtorEq, Nat.reduceMul, Nat.reduceBEq, Int.reduceEq, if_true, if_false, eq_self, ne_eq, env_bT, T_3, T_5, T_9, P29_eq, Var.pv_eq, P32_eq, GEnv.pv_eq, P41_eq, Redir.pv_eq, P152_eq, Cmd.pv_eq, P42_eq, Word.pv_eq, GValue.pv_eq, eqT_3, f16.1, f16.2.1, f16.2.2, eqT_5]); repeat' (split <;> rename_i hb <;> (try simp only [HBS, ge_iff_le, gt_iff_lt] at hb) <;> simp -implicitDefEqProofs only [RUNS, qindex, Nat.reduceAdd, Nat.reduceLeDiff, Nat.reduceSub, reduceIte, Nat.reduceEqDiff, Nat.reduceLT, reduceCtorEq, Nat.reduceMul, Nat.reduceBEq, Int.reduceEq, if_true, if_false, eq_self, ne_eq, env_bT, T_3, T_5, T_9, P29_eq, Var.pv_eq, P32_eq, GEnv.pv_eq, P41_eq, Redir.pv_eq, P152_eq, Cmd.pv_eq, P42_eq, Word.pv_eq, GValue.pv_eq, eqT_3, f16.1, f16.2.1, f16.2.2, eqT_5, *, decide_true, decide_false, Decidable.not_not, not_false_eq_true, not_true_eq_false])
      all_goals (first | (simp only [BOOLS]; done) | (simp [*]; done) | ((try simp only [CLOS, beq_iff_eq, bne_iff_ne, ne_eq] at *) <;> omega) | (simp_all; done) | (simp_all <;> omega))
    refine AW.ret ?_
    cases h
    show finish _ _ _ _ _ = _
    first | rfl | (simp [finish, resOf, renArgs, toPV, selObjs, sl])

set_option maxHeartbeats 4000000 in
theorem g_F59 {O : Orc} (hS : Sound env O) (hpf : O.pf = pfn) (l1 : List GEnv) (group2 : Int) (r3 : Int) (h : F59 l1 group2 = some r3) : Good env 59 [.pv (.slice (List.map GEnv.pv l1)), .pv (.int .i64 group2)] [] [.pv (.int .i64 r3)] [] := by
  refine Good.start (fn := Tryz.f59) (N := 20) fn_59 rfl rfl (by simp) [] _ rfl rfl ?_
  rw [F59] at h
  refine AW.seq ?_
  refine AW.reg hS [(0, .pv (.slice (List.map GEnv.pv l1))), (1, .pv (.int .i64 group2))] [] ?_ ?_
  · simp -implicitDefEqProofs only [RUNS, qindex, Nat.reduceAdd, Nat.reduceLeDiff, Nat.reduceSub, reduceIte, Nat.reduceEqDiff, Nat.reduceLT, reduceCtorEq, Nat.reduceMul, Nat.reduceBEq, Int.reduceEq, if_true, if_false, eq_self, ne_eq, env_bT, P29_eq, Var.pv_eq, P32_eq, GEnv.pv_eq, P41_eq, Redir.pv_eq, P152_eq, Cmd.pv_eq, P42_eq, Word.pv_eq, GValue.pv_eq]
  refine AW.seq ?_
  refine AW.seq ?_
  refine AW.reg hS [(0, .pv (.slice (List.map GEnv.pv l1))), (1, .pv (.int .i64 group2)), (5, .pv (.int .i64 0))] [] ?_ ?_
  · simp -implicitDefEqProofs only [RUNS, qindex, Nat.reduceAdd, Nat.reduceLeDiff, Nat.reduceSub, reduceIte, Nat.reduceEqDiff, Nat.reduceLT, reduceCtorEq, Nat.reduceMul, Nat.reduceBEq, Int.reduceEq, if_true, if_false, eq_self, ne_eq, env_bT, P29_eq, Var.pv_eq, P32_eq, GEnv.pv_eq, P41_eq, Redir.pv_eq, P152_eq, Cmd.pv_eq, P42_eq, Word.pv_eq, GValue.pv_eq]
  refine AW.block ?_
  refine AW.weak (Weak.slots (L := [(0, .pv (.slice (List.map GEnv.pv l1))), (1, .pv (.int .i64 group2)), (5, .pv (.int .i64 0))]) ⟨rfl, rfl, rfl, trivial⟩) ?_
  refine AW.loopI (α := Nat × Int) (fun (_, i4) => ⟨sl [(0, .pv (.slice (List.map GEnv.pv l1))), (1, .pv (.int .i64 group2)), (5, .pv (.int .i64 i4))], 20, []⟩) (fun x => iter (F59_b1 l1 group2) x.1 x.2 = some r3) (fun x => x.1) (BIG, 0) h ?_
  clear h
  intro ⟨n13, i4⟩ h
  replace h := iter_some h; obtain ⟨m7, rfl, h⟩ := h
  rw [F59_b1] at h
  try dsimp only at h
  show AW _ _ _ _ ⟨sl [(0, .pv (.slice (List.map GEnv.pv l1))), (1, .pv (.int .i64 group2)), (5, .pv (.int .i64 i4))], 20, []⟩
  refine AW.seq ?_
  refine AW.seq ?_
  refine AW.reg hS [(0, .pv (.slice (List.map GEnv.pv l1))), (1, .pv (.int .i64 group2)), (5, .pv (.int .i64 i4)), (9, .pv (.bool (decide (i4 < (l1.length : Int)))))] [] ?_ ?_
  · simp -implicitDefEqProofs only [RUNS, qindex, Nat.reduceAdd, Nat.reduceLeDiff, Nat.reduceSub, reduceIte, Nat.reduceEqDiff, Nat.reduceLT, reduceCtorEq, Nat.reduceMul, Nat.reduceBEq, Int.reduceEq, if_true, if_false, eq_self, ne_eq, env_bT, T_3, T_22, T_34, P29_eq, Var.pv_eq, P32_eq, GEnv.pv_eq, P41_eq, Redir.pv_eq, P152_eq, Cmd.pv_eq, P42_eq, Word.pv_eq, GValue.pv_eq, eqT_3]
  refine AW.cond (b := decide (i4 < (l1.length : Int))) rfl (fun hb8 => ?_) (fun hb8 => ?_)
  · replace h := bif_t hb8 h
    refine AW.skip ?_
    refine AW.seq ?_
    refine AW.block ?_
    refine AW.seq ?_
    replace h := Option.bind_eq_some_iff.1 h; obtain ⟨u9, q10, h⟩ := h
    have f11 := lidx_f q10
    refine AW.reg hS [(0, .pv (.slice (List.map GEnv.pv l1))), (1, .pv (.int .i64 group2)), (5, .pv (.int .i64 i4)), (18, .pv (.bool (decide (u9.id_ = group2))))] [] ?_ ?_
    · simp -implicitDefEqProofs only [RUNS, qindex, Nat.reduceAdd, Nat.reduceLeDiff, Nat.reduceSub, reduceIte, Nat.reduceEqDiff, Nat.reduceLT, reduceCtorEq, Nat.reduceMul, Nat.reduceBEq, Int.reduceEq, if_true, if_false, eq_self, ne_eq, env_bT, T_3, T_22, T_34, P29_eq, Var.pv_eq, P32_eq, GEnv.pv_eq, P41_eq, Redir.pv_eq, P152_eq, Cmd.pv_eq, P42_eq, Word.pv_eq, GValue.pv_eq, f11.1, f11.2.1, eqT_3]
    refine AW.cond (b := decide (u9.id_ = group2)) rfl (fun hb12 => ?_) (fun hb12 => ?_)
    · replace h := bif_t hb12 h
      refine AW.seq ?_
      refine AW.reg hS [(4, .pv (.int .i64 i4))] [] ?_ ?_
      · simp -implicitDefEqProofs only [RUNS, qindex, Nat.reduceAdd, Nat.reduceLeDiff, Nat.reduceSub, reduceIte, Nat.reduceEqDiff, Nat.reduceLT, reduceCtorEq, Nat.reduceMul, Nat.reduceBEq, Int.reduceEq, if_true, if_false, eq_self, ne_eq, env_bT, P29_eq, Var.pv_eq, P32_eq, GEnv.pv_eq, P41_eq, Redir.pv_eq, P152_eq, Cmd.pv_eq, P42_eq, Word.pv_eq, GValue.pv_eq]
      refine AW.ret ?_
      cases h
      show finish _ _ _ _ _ = _
      first | rfl | (simp [finish, resOf, renArgs, toPV, selObjs, sl])
    · replace h := bif_f hb12 h
      refine AW.skip ?_
      refine AW.reg hS [(0, .pv (.slice (List.map GEnv.pv l1))), (1, .pv (.int .i64 group2)), (5, .pv (.int .i64 (IntKind.wrap .i64 (i4 + 1))))] [] ?_ ?_
      · simp -implicitDefEqProofs only [RUNS, qindex, Nat.reduceAdd, Nat.reduceLeDiff, Nat.reduceSub, reduceIte, Nat.reduceEqDiff, Nat.reduceLT, reduceCtorEq, Nat.reduceMul, Nat.reduceBEq, Int.reduceEq, if_true, if_false, eq_self, ne_eq, env_bT, T_3, P29_eq, Var.pv_eq, P32_eq, GEnv.pv_eq, P41_eq, Redir.pv_eq, P152_eq, Cmd.pv_eq, P42_eq, Word.pv_eq, GValue.pv_eq, eqT_3]
      exact ⟨(m7, IntKind.wrap .i64 (i4 + 1)), h, (Weak.norm (m := 0) (Nat.le_of_ble_eq_true rfl) ⟨rfl, rfl, rfl, trivial⟩ rfl rfl rfl), Nat.lt_succ_self _⟩
  · replace h := bif_f hb8 h
    refine AW.exit ?_
    refine AW.seq ?_
    refine AW.reg hS [(4, .pv (.int .i64 (-1)))] [] ?_ ?_
    · simp -implicitDefEqProofs only [RUNS, qindex, Nat.reduceAdd, Nat.reduceLeDiff, Nat.reduceSub, reduceIte, Nat.reduceEqDiff, Nat.reduceLT, reduceCtorEq, Nat.reduceMul, Nat.reduceBEq, Int.reduceEq, if_true, if_false, eq_self, ne_eq, env_bT, P29_eq, Var.pv_eq, P32_eq, GEnv.pv_eq, P41_eq, Redir.pv_eq, P152_eq, Cmd.pv_eq, P42_eq, Word.pv_eq, GValue.pv_eq]
    refine AW.ret ?_
    cases h
    show finish _ _ _ _ _ = _
    first | rfl | (simp [finish, resOf, renArgs, toPV, selObjs, sl])

set_option maxHeartbeats 4000000 in
theorem g_F60 {O : Orc} (hS : Sound env O) (hpf : O.pf = pfn) (l1 : List Str) (r2 : List Str) (h : F60 l1 = some r2) : Good env 60 [.pv (.slice (List.map PV.str l1))] [] [.pv (.slice (List.map PV.str r2))] [] := by
  refine Good.start (fn := Tryz.f60) (N := 6) fn_60 rfl rfl (by simp) [] _ rfl rfl ?_
  rw [F60] at h
  refine AW.seq ?_
  refine AW.reg hS [(0, .pv (.slice (List.map PV.str l1)))] [] ?_ ?_
  · simp -implicitDefEqProofs only [RUNS, qindex, Nat.reduceAdd, Nat.reduceLeDiff, Nat.reduceSub, reduceIte, Nat.reduceEqDiff, Nat.reduceLT, reduceCtorEq, Nat.reduceMul, Nat.reduceBEq, Int.reduceEq, if_true, if_false, eq_self, ne_eq, env_bT, P29_eq, Var.pv_eq, P32_eq, GEnv.pv_eq, P41_eq, Redir.pv_eq, P152_eq, Cmd.pv_eq, P42_eq, Word.pv_eq, GValue.pv_eq]
  refine AW.seq ?_
  replace h := Option.bind_eq_some_iff.1 h; obtain ⟨out3, q4, h⟩ := h
  have f5 := appO_f q4
  try simp only [List.length_cons, List.length_nil, Nat.zero_add, Nat.reduceAdd, Nat.reduceLeDiff, Nat.add_zero, Nat.reduceMul] at f5
  refine AW.reg hS [(2, .vec 0 (List.length out3))] [.row 9 1 (List.map PV.str out3) false] ?_ ?_
  · simp -implicitDefEqProofs only [RUNS, qindex, Nat.reduceAdd, Nat.reduceLeDiff, Nat.reduceSub, reduceIte, Nat.reduceEqDiff, Nat.reduceLT, reduceCtorEq, Nat.reduceMul, Nat.reduceBEq, Int.reduceEq, if_true, if_false, eq_self, ne_eq, env_bT, T_9, T_29, P29_eq, Var.pv_eq, P32_eq, GEnv.pv_eq, P41_eq, Redir.pv_eq, P152_eq, Cmd.pv_eq, P42_eq, Word.pv_eq, GValue.pv_eq, ownT_29, f5.1, f5.2, str_all] <;> (try simp only [List.length_take, List.length_drop, List.length_map])
  clear f5
  refine AW.weak (Weak.freeze 0 rfl) ?_
  refine AW.weak (σ' := ⟨sl [(2, .vec 0 (List.length out3))], 6, [.row 9 1 (List.map PV.str out3) true]⟩) (Weak.slots ⟨rfl, trivial⟩) ?_
  refine AW.ret ?_
  cases h
  show finish _ _ _ _ _ = _
  first | rfl | (simp [finish, resOf, renArgs, toPV, selObjs, sl])

set_option maxHeartbeats 4000000 in
theorem g_F45 {O : Orc} (hS : Sound env O) (hpf : O.pf = pfn) (c_F59 : C_F59 O) (c_F15 : C_F15 O) (c_F60 : C_F60 O) (l1 : List GEnv) (group2 : Int) (name3 : Str) (r4 : List Str) (r5 : Bool) (h : F45 l1 group2 name3 = some (r4, r5)) : Good env 45 [.pv (.slice (List.map GEnv.pv l1)), .pv (.int .i64 group2), .pv (.str name3)] [] [.pv (.slice (List.map PV.str r4)), .pv (.bool r5)] [] := by
  have pf_15 : O.pf 15 = true := by rw [hpf]; rfl
  have pf_59 : O.pf 59 = true := by rw [hpf]; rfl
  have pf_60 : O.pf 60 = true := by rw [hpf]; rfl
  refine Good.start (fn := Tryz.f45) (N := 38) fn_45 rfl rfl (by simp) [] _ rfl rfl ?_
  rw [F45] at h
  refine AW.seq ?_
  refine AW.reg hS [(0, .pv (.slice (List.map GEnv.pv l1))), (1, .pv (.int .i64 group2)), (2, .pv (.str name3))] [] ?_ ?_
  · simp -implicitDefEqProofs only [RUNS, qindex, Nat.reduceAdd, Nat.reduceLeDiff, Nat.reduceSub, reduceIte, Nat.reduceEqDiff, Nat.reduceLT, reduceCtorEq, Nat.reduceMul, Nat.reduceBEq, Int.reduceEq, if_true, if_false, eq_self, ne_eq, env_bT, P29_eq, Var.pv_eq, P32_eq, GEnv.pv_eq, P41_eq, Redir.pv_eq, P152_eq, Cmd.pv_eq, P42_eq, Word.pv_eq, GValue.pv_eq]
  refine AW.seq ?_
  replace h := Option.bind_eq_some_iff.1 h; obtain ⟨r6, q7, h⟩ := h
  have f8 := c_F59 l1 group2 r6 q7
  try dsimp only at f8
  refine AW.reg hS [(0, .pv (.slice (List.map GEnv.pv l1))), (2, .pv (.str name3)), (8, .pv (.int .i64 r6))] [] ?_ ?_
  · simp -implicitDefEqProofs only [RUNS, qindex, Nat.reduceAdd, Nat.reduceLeDiff, Nat.reduceSub, reduceIte, Nat.reduceEqDiff, Nat.reduceLT, reduceCtorEq, Nat.reduceMul, Nat.reduceBEq, Int.reduceEq, if_true, if_false, eq_self, ne_eq, env_bT, T_3, T_22, T_34, P29_eq, Var.pv_eq, P32_eq, GEnv.pv_eq, P41_eq, Redir.pv_eq, P152_eq, Cmd.pv_eq, P42_eq, Word.pv_eq, GValue.pv_eq, pf_59, f8]
  refine AW.seq ?_
  refine AW.seq ?_
  replace h := Option.bind_eq_some_iff.1 h; obtain ⟨u9, q10, h⟩ := h
  have f11 := lidx_g (guardO_t q10)
  replace h := Option.bind_eq_some_iff.1 h; obtain ⟨r12, q13, h⟩ := h
  have f14 := fun hg => c_F15 u9 name3 r12 (guardO_t q13 hg)
  try dsimp only at f14
  refine AW.reg hS [(0, .pv (.slice (List.map GEnv.pv l1))), (2, .pv (.str name3)), (8, .pv (.int .i64 r6)), (22, .pv (.bool (decide (r6 < 0) || decide (r12 < 0))))] [] ?_ ?_
  · clear h
    (simp -implicitDefEqProofs only [RUNS, qindex, Nat.reduceAdd, Nat.reduceLeDiff, Nat.reduceSub, reduceIte, Nat.reduceEqDiff, Nat.reduceLT, reduceCtorEq, Nat.reduceMul, Nat.reduceBEq, Int.reduceEq, if_true, if_false, eq_self, ne_eq, env_bT, T_3, T_9, T_22, T_34, P29_eq, Var.pv_eq, P32_eq, GEnv.pv_eq, P41_eq, Redir.pv_eq, P152_eq, Cmd.pv_eq, P42_eq, Word.pv_eq, GValue.pv_eq, eqT_3, f11.1, f11.2.1, pf_15, f14]); repeat' (split <;> rename_i hb <;> (try simp only [HBS, ge_iff_le, gt_iff_lt] at hb) <;> simp -implicitDefEqProofs only [RUNS, qindex, Nat.reduceAdd, Nat.reduceLeDiff, Nat.reduceSub, reduceIte, Nat.reduceEqDiff, Nat.reduceLT, reduceCtorEq, Nat.reduceMul, Nat.reduceBEq, Int.reduceEq, if_true, if_false, eq_self, ne_eq, env_bT, T_3, T_9, T_22, T_34, P29_eq, Var.pv_eq, P32_eq, GEnv.pv_eq, P41_eq, Redir.pv_eq, P152_eq, Cmd.pv_eq, P42_eq, Word.pv_eq, GValue.pv_eq, eqT_3, f11.1, f11.2.1, pf_15, f14, *, decide_true, decide_false, Decidable.not_not, not_false_eq_true, not_true_eq_false])
    all_goals (first | (simp only [BOOLS]; done) | (simp [*]; done) | ((try simp only [CLOS, beq_iff_eq, bne_iff_ne, ne_eq] at *) <;> omega) | (simp_all; done) | (simp_all <;> omega))
  refine AW.cond (b := (decide (r6 < 0) || decide (r12 < 0))) rfl (fun hb15 => ?_) (fun hb15 => ?_)
  · replace h := bif_t hb15 h
    refine AW.seq ?_
    refine AW.reg hS [(6, .nils), (7, .pv (.bool false))] [] ?_ ?_
    · simp -implicitDefEqProofs only [RUNS, qindex, Nat.reduceAdd, Nat.reduceLeDiff, Nat.reduceSub, reduceIte, Nat.reduceEqDiff, Nat.reduceLT, reduceCtorEq, Nat.reduceMul, Nat.reduceBEq, Int.reduceEq, if_true, if_false, eq_self, ne_eq, env_bT, P29_eq, Var.pv_eq, P32_eq, GEnv.pv_eq, P41_eq, Redir.pv_eq, P152_eq, Cmd.pv_eq, P42_eq, Word.pv_eq, GValue.pv_eq]
    refine AW.ret ?_
    cases h
    show finish _ _ _ _ _ = _
    first | rfl | (simp [finish, resOf, renArgs, toPV, selObjs, sl])
  · replace h := bif_f hb15 h
    refine AW.skip ?_
    refine AW.seq ?_
    replace h := Option.bind_eq_some_iff.1 h; obtain ⟨u16, q17, h⟩ := h
    have f18 := lidx_f q17
    replace h := Option.bind_eq_some_iff.1 h; obtain ⟨r19, q20, h⟩ := h
    have f21 := c_F15 u16 name3 r19 q20
    try dsimp only at f21
    replace h := Option.bind_eq_some_iff.1 h; obtain ⟨u22, q23, h⟩ := h
    have f24 := lidx_f q23
    replace h := Option.bind_eq_some_iff.1 h; obtain ⟨r25, q26, h⟩ := h
    have f27 := c_F60 u22.values_ r25 q26
    try dsimp only at f27
    refine AW.dreg mixed hS (hpf ▸ (by kernel_rfl : orderOK pfn _ = true)) [(6, .pv (.slice (List.map PV.str r25))), (7, .pv (.bool true))] [] ?_ ?_
    · simp -implicitDefEqProofs only [RUNS, qindex, Nat.reduceAdd, Nat.reduceLeDiff, Nat.reduceSub, reduceIte, Nat.reduceEqDiff, Nat.reduceLT, reduceCtorEq, Nat.reduceMul, Nat.reduceBEq, Int.reduceEq, if_true, if_false, eq_self, ne_eq, env_bT, T_9, T_22, T_29, T_32, T_34, T_37, P29_eq, Var.pv_eq, P32_eq, GEnv.pv_eq, P41_eq, Redir.pv_eq, P152_eq, Cmd.pv_eq, P42_eq, Word.pv_eq, GValue.pv_eq, f18.1, f18.2.1, pf_15, f21, f24.1, f24.2.1, pf_60, f27]
    refine AW.ret ?_
    cases h
    show finish _ _ _ _ _ = _
    first | rfl | (simp [finish, resOf, renArgs, toPV, selObjs, sl])

set_option maxHeartbeats 4000000 in
theorem g_F30 {O : Orc} (hS : Sound env O) (hpf : O.pf = pfn) (c_F44 : C_F44 O) (c_F45 : C_F45 O) (env1 : List GEnv) (group2 : Int) (name3 : Str) (r4 : List Str) (h : F30 env1 group2 name3 = some r4) : Good env 30 [.pv (.slice (List.map GEnv.pv env1)), .pv (.int .i64 group2), .pv (.str name3)] [] [.pv (.slice (List.map PV.str r4))] [] := by
  have pf_44 : O.pf 44 = true := by rw [hpf]; rfl
  have pf_45 : O.pf 45 = true := by rw [hpf]; rfl
  refine Good.start (fn := Tryz.f30) (N := 42) fn_30 rfl rfl (by simp) [] _ rfl rfl ?_
  rw [F30] at h
  refine AW.seq ?_
  refine AW.reg hS [(0, .pv (.slice (List.map GEnv.pv env1))), (1, .pv (.int .i64 group2)), (2, .pv (.str name3))] [] ?_ ?_
  · simp -implicitDefEqProofs only [RUNS, qindex, Nat.reduceAdd, Nat.reduceLeDiff, Nat.reduceSub, reduceIte, Nat.reduceEqDiff, Nat.reduceLT, reduceCtorEq, Nat.reduceMul, Nat.reduceBEq, Int.reduceEq, if_true, if_false, eq_self, ne_eq, env_bT, P29_eq, Var.pv_eq, P32_eq, GEnv.pv_eq, P41_eq, Redir.pv_eq, P152_eq, Cmd.pv_eq, P42_eq, Word.pv_eq, GValue.pv_eq]
  refine AW.seq ?_
  refine AW.seq ?_
  replace h := Option.bind_eq_some_iff.1 h; obtain ⟨⟨r5, r6⟩, q7, h⟩ := h
  dsimp only at h
  have f8 := c_F44 name3 r5 r6 q7
  try dsimp only at f8
  refine AW.reg hS [(0, .pv (.slice (List.map GEnv.pv env1))), (1, .pv (.int .i64 group2)), (2, .pv (.str name3)), (7, .pv (.int .i64 r5)), (8, .pv (.bool r6))] [] ?_ ?_
  · simp -implicitDefEqProofs only [RUNS, qindex, Nat.reduceAdd, Nat.reduceLeDiff, Nat.reduceSub, reduceIte, Nat.reduceEqDiff, Nat.reduceLT, reduceCtorEq, Nat.reduceMul, Nat.reduceBEq, Int.reduceEq, if_true, if_false, eq_self, ne_eq, env_bT, T_9, P29_eq, Var.pv_eq, P32_eq, GEnv.pv_eq, P41_eq, Redir.pv_eq, P152_eq, Cmd.pv_eq, P42_eq, Word.pv_eq, GValue.pv_eq, pf_44, f8]
  refine AW.seq ?_
  refine AW.reg hS [(0, .pv (.slice (List.map GEnv.pv env1))), (1, .pv (.int .i64 group2)), (2, .pv (.str name3)), (7, .pv (.int .i64 r5)), (18, .pv (.bool r6))] [] ?_ ?_
  · simp -implicitDefEqProofs only [RUNS, qindex, Nat.reduceAdd, Nat.reduceLeDiff, Nat.reduceSub, reduceIte, Nat.reduceEqDiff, Nat.reduceLT, reduceCtorEq, Nat.reduceMul, Nat.reduceBEq, Int.reduceEq, if_true, if_false, eq_self, ne_eq, env_bT, P29_eq, Var.pv_eq, P32_eq, GEnv.pv_eq, P41_eq, Redir.pv_eq, P152_eq, Cmd.pv_eq, P42_eq, Word.pv_eq, GValue.pv_eq]
  refine AW.cond (b := r6) rfl (fun hb9 => ?_) (fun hb9 => ?_)
  · replace h := bif_t hb9 h
    refine AW.seq ?_
    replace h := Option.bind_eq_some_iff.1 h; obtain ⟨⟨r10, r11⟩, q12, h⟩ := h
    dsimp only at h
    have f13 := c_F45 env1 group2 [42] r10 r11 q12
    try dsimp only at f13
    try simp only [List.map_cons, List.map_nil, P29_eq, Var.pv_eq, P32_eq, GEnv.pv_eq, P41_eq, Redir.pv_eq, P152_eq, Cmd.pv_eq, P42_eq, Word.pv_eq, GValue.pv_eq] at f13
    refine AW.reg hS [(7, .pv (.int .i64 r5)), (9, .pv (.slice (List.map PV.str r10)))] [] ?_ ?_
    · simp -implicitDefEqProofs only [RUNS, qindex, Nat.reduceAdd, Nat.reduceLeDiff, Nat.reduceSub, reduceIte, Nat.reduceEqDiff, Nat.reduceLT, reduceCtorEq, Nat.reduceMul, Nat.reduceBEq, Int.reduceEq, if_true, if_false, eq_self, ne_eq, env_bT, T_3, T_9, T_22, T_34, P29_eq, Var.pv_eq, P32_eq, GEnv.pv_eq, P41_eq, Redir.pv_eq, P152_eq, Cmd.pv_eq, P42_eq, Word.pv_eq, GValue.pv_eq, pf_45, f13]
    refine AW.seq ?_
    refine AW.seq ?_
    refine AW.reg hS [(7, .pv (.int .i64 r5)), (9, .pv (.slice (List.map PV.str r10))), (28, .pv (.bool (decide (r5 ≤ (r10.length : Int)))))] [] ?_ ?_
    · simp -implicitDefEqProofs only [RUNS, qindex, Nat.reduceAdd, Nat.reduceLeDiff, Nat.reduceSub, reduceIte, Nat.reduceEqDiff, Nat.reduceLT, reduceCtorEq, Nat.reduceMul, Nat.reduceBEq, Int.reduceEq, if_true, if_false, eq_self, ne_eq, env_bT, T_3, T_9, T_29, P29_eq, Var.pv_eq, P32_eq, GEnv.pv_eq, P41_eq, Redir.pv_eq, P152_eq, Cmd.pv_eq, P42_eq, Word.pv_eq, GValue.pv_eq, eqT_3]
    refine AW.cond (b := decide (r5 ≤ (r10.length : Int))) rfl (fun hb14 => ?_) (fun hb14 => ?_)
    · replace h := bif_t hb14 h
      refine AW.seq ?_
      replace h := Option.bind_eq_some_iff.1 h; obtain ⟨l15, q16, h⟩ := h
      have f17 := lslice_f q16
      have f17l := f17.2.2.1
      try simp only [Int.toNat_natCast, Int.toNat_zero] at f17l
      refine AW.reg hS [(6, .pv (.slice (List.map PV.str l15)))] [] ?_ ?_
      · simp -implicitDefEqProofs only [RUNS, qindex, Nat.reduceAdd, Nat.reduceLeDiff, Nat.reduceSub, reduceIte, Nat.reduceEqDiff, Nat.reduceLT, reduceCtorEq, Nat.reduceMul, Nat.reduceBEq, Int.reduceEq, if_true, if_false, eq_self, ne_eq, env_bT, T_3, T_9, T_29, P29_eq, Var.pv_eq, P32_eq, GEnv.pv_eq, P41_eq, Redir.pv_eq, P152_eq, Cmd.pv_eq, P42_eq, Word.pv_eq, GValue.pv_eq, eqT_3, Nat.sub_zero, List.drop_zero, f17.1, f17.2.1, f17l, f17.2.2.2.1, f17.2.2.2.2, List.map_take, List.map_drop, List.length_map, Int.toNat_natCast, Int.toNat_zero, str_all] <;> (try simp only [List.length_take, List.length_drop, List.length_map])
      clear f17 f17l
      refine AW.ret ?_
      cases h
      show finish _ _ _ _ _ = _
      first | rfl | (simp [finish, resOf, renArgs, toPV, selObjs, sl])
    · replace h := bif_f hb14 h
      refine AW.skip ?_
      refine AW.seq ?_
      refine AW.reg hS [(6, .nils)] [] ?_ ?_
      · simp -implicitDefEqProofs only [RUNS, qindex, Nat.reduceAdd, Nat.reduceLeDiff, Nat.reduceSub, reduceIte, Nat.reduceEqDiff, Nat.reduceLT, reduceCtorEq, Nat.reduceMul, Nat.reduceBEq, Int.reduceEq, if_true, if_false, eq_self, ne_eq, env_bT, P29_eq, Var.pv_eq, P32_eq, GEnv.pv_eq, P41_eq, Redir.pv_eq, P152_eq, Cmd.pv_eq, P42_eq, Word.pv_eq, GValue.pv_eq]
      refine AW.ret ?_
      cases h
      show finish _ _ _ _ _ = _
      first | rfl | (simp [finish, resOf, renArgs, toPV, selObjs, sl])
  · replace h := bif_f hb9 h
    refine AW.skip ?_
    refine AW.seq ?_
    replace h := Option.bind_eq_some_iff.1 h; obtain ⟨⟨r18, r19⟩, q20, h⟩ := h
    dsimp only at h
    have f21 := c_F45 env1 group2 name3 r18 r19 q20
    try dsimp only at f21
    refine AW.reg hS [(11, .pv (.slice (List.map PV.str r18)))] [] ?_ ?_
    · simp -implicitDefEqProofs only [RUNS, qindex, Nat.reduceAdd, Nat.reduceLeDiff, Nat.reduceSub, reduceIte, Nat.reduceEqDiff, Nat.reduceLT, reduceCtorEq, Nat.reduceMul, Nat.reduceBEq, Int.reduceEq, if_true, if_false, eq_self, ne_eq, env_bT, T_3, T_9, T_22, T_34, P29_eq, Var.pv_eq, P32_eq, GEnv.pv_eq, P41_eq, Redir.pv_eq, P152_eq, Cmd.pv_eq, P42_eq, Word.pv_eq, GValue.pv_eq, pf_45, f21]
    refine AW.seq ?_
    refine AW.reg hS [(6, .pv (.slice (List.map PV.str r18)))] [] ?_ ?_
    · simp -implicitDefEqProofs only [RUNS, qindex, Nat.reduceAdd, Nat.reduceLeDiff, Nat.reduceSub, reduceIte, Nat.reduceEqDiff, Nat.reduceLT, reduceCtorEq, Nat.reduceMul, Nat.reduceBEq, Int.reduceEq, if_true, if_false, eq_self, ne_eq, env_bT, P29_eq, Var.pv_eq, P32_eq, GEnv.pv_eq, P41_eq, Redir.pv_eq, P152_eq, Cmd.pv_eq, P42_eq, Word.pv_eq, GValue.pv_eq]
    refine AW.ret ?_
    cases h
    show finish _ _ _ _ _ = _
    first | rfl | (simp [finish, resOf, renArgs, toPV, selObjs, sl])

end Go.Abs.U5Z
