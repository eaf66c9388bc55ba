/- The layer 50 laws: the functions walked. -/
import Derived.Test.YthoacjgjmlgaoaaDoorD1
set_option linter.unusedVariables false
set_option linter.unusedSimpArgs false
set_option maxRecDepth 8000
namespace Go.Abs.U50
open Go.RowKit Go.Proofs

set_option maxHeartbeats 4000000 in
theorem g_F33 {O : Orc} (hS : Sound env O) (hpf : O.pf = pfn) (c1 : Int) (r2 : Bool) (h : F33 c1 = some r2) : Good env 33 [.pv (.int .u8 c1)] [] [.pv (.bool r2)] [] := by
  refine Good.start (fn := Tryd.f33) (N := 33) fn_33 rfl rfl (by simp) [] _ rfl rfl ?_
  rw [F33] at h
  refine AW.seq ?_
  refine AW.reg hS [(0, .pv (.int .u8 c1))] [] ?_ ?_
  · simp -implicitDefEqProofs only [RUNS, qindex, Nat.reduceAdd, Nat.reduceLeDiff, Nat.reduceSub, reduceIte, Nat.reduceEqDiff, Nat.reduceLT, reduceCtorEq, Nat.reduceMul, Nat.reduceBEq, Int.reduceEq, if_true, if_false, eq_self, ne_eq, env_bT, P31_eq, Redir.pv_eq, P154_eq, Cmd.pv_eq, P32_eq, Word.pv_eq, GValue.pv_eq, P22_eq, Var.pv_eq, P52_eq, GEnv.pv_eq]
  refine AW.seq ?_
  refine AW.reg hS [(2, .pv (.bool (((((decide (97 ≤ c1) && decide (c1 ≤ 122)) || (decide (65 ≤ c1) && decide (c1 ≤ 90))) || (decide (48 ≤ c1) && decide (c1 ≤ 57))) || decide (c1 = 95)) || decide (c1 = 42))))] [] ?_ ?_
  · clear h
    (simp -implicitDefEqProofs only [RUNS, qindex, Nat.reduceAdd, Nat.reduceLeDiff, Nat.reduceSub, reduceIte, Nat.reduceEqDiff, Nat.reduceLT, reduceCtorEq, Nat.reduceMul, Nat.reduceBEq, Int.reduceEq, if_true, if_false, eq_self, ne_eq, env_bT, T_5, P31_eq, Redir.pv_eq, P154_eq, Cmd.pv_eq, P32_eq, Word.pv_eq, GValue.pv_eq, P22_eq, Var.pv_eq, P52_eq, GEnv.pv_eq, eqT_5]); repeat' (split <;> rename_i hb <;> (try simp only [HBS, ge_iff_le, gt_iff_lt] at hb) <;> simp -implicitDefEqProofs only [RUNS, qindex, Nat.reduceAdd, Nat.reduceLeDiff, Nat.reduceSub, reduceIte, Nat.reduceEqDiff, Nat.reduceLT, reduceCtorEq, Nat.reduceMul, Nat.reduceBEq, Int.reduceEq, if_true, if_false, eq_self, ne_eq, env_bT, T_5, P31_eq, Redir.pv_eq, P154_eq, Cmd.pv_eq, P32_eq, Word.pv_eq, GValue.pv_eq, P22_eq, Var.pv_eq, P52_eq, GEnv.pv_eq, eqT_5, *, decide_true, decide_false, Decidable.not_not, not_false_eq_true, not_true_eq_false])
    all_goals (first | (simp only [BOOLS]; done) | (simp [*]; done) | ((try simp only [CLOS, beq_iff_eq, bne_iff_ne, ne_eq] at *) <;> omega) | (simp_all; done) | (simp_all <;> omega))
  refine AW.ret ?_
  cases h
  show finish _ _ _ _ _ = _
  first | rfl | (simp [finish, resOf, renArgs, toPV, selObjs, sl])

set_option maxHeartbeats 4000000 in
theorem g_F48 {O : Orc} (hS : Sound env O) (hpf : O.pf = pfn) (s1 : Str) (prefix2 : Str) (r3 : Bool) (h : F48 s1 prefix2 = some r3) : Good env 48 [.pv (.str s1), .pv (.str prefix2)] [] [.pv (.bool r3)] [] := by
  refine Good.start (fn := Tryd.f48) (N := 18) fn_48 rfl rfl (by simp) [] _ rfl rfl ?_
  rw [F48] at h
  refine AW.seq ?_
  refine AW.reg hS [(0, .pv (.str s1)), (1, .pv (.str prefix2))] [] ?_ ?_
  · simp -implicitDefEqProofs only [RUNS, qindex, Nat.reduceAdd, Nat.reduceLeDiff, Nat.reduceSub, reduceIte, Nat.reduceEqDiff, Nat.reduceLT, reduceCtorEq, Nat.reduceMul, Nat.reduceBEq, Int.reduceEq, if_true, if_false, eq_self, ne_eq, env_bT, P31_eq, Redir.pv_eq, P154_eq, Cmd.pv_eq, P32_eq, Word.pv_eq, GValue.pv_eq, P22_eq, Var.pv_eq, P52_eq, GEnv.pv_eq]
  refine AW.seq ?_
  replace h := Option.bind_eq_some_iff.1 h; obtain ⟨t4, q5, h⟩ := h
  have f6 := sslice_g (guardO_t q5)
  have f6e := f6.2.2.2.2
  try simp only [Int.toNat_natCast, Int.toNat_zero, List.drop_zero] at f6e
  have f6l := f6.2.2.1
  try simp only [Int.toNat_natCast, Int.toNat_zero] at f6l
  refine AW.reg hS [(4, .pv (.bool (decide ((prefix2.length : Int) ≤ (s1.length : Int)) && decide (t4 = prefix2))))] [] ?_ ?_
  · clear h
    (simp -implicitDefEqProofs only [RUNS, qindex, Nat.reduceAdd, Nat.reduceLeDiff, Nat.reduceSub, reduceIte, Nat.reduceEqDiff, Nat.reduceLT, reduceCtorEq, Nat.reduceMul, Nat.reduceBEq, Int.reduceEq, if_true, if_false, eq_self, ne_eq, env_bT, T_3, T_9, P31_eq, Redir.pv_eq, P154_eq, Cmd.pv_eq, P32_eq, Word.pv_eq, GValue.pv_eq, P22_eq, Var.pv_eq, P52_eq, GEnv.pv_eq, eqT_3, f6.1, f6.2.1, f6l, f6.2.2.2.1, f6e, Int.toNat_natCast, Int.toNat_zero, eqT_9]); repeat' (split <;> rename_i hb <;> (try simp only [HBS, ge_iff_le, gt_iff_lt] at hb) <;> simp -implicitDefEqProofs only [RUNS, qindex, Nat.reduceAdd, Nat.reduceLeDiff, Nat.reduceSub, reduceIte, Nat.reduceEqDiff, Nat.reduceLT, reduceCtorEq, Nat.reduceMul, Nat.reduceBEq, Int.reduceEq, if_true, if_false, eq_self, ne_eq, env_bT, T_3, T_9, P31_eq, Redir.pv_eq, P154_eq, Cmd.pv_eq, P32_eq, Word.pv_eq, GValue.pv_eq, P22_eq, Var.pv_eq, P52_eq, GEnv.pv_eq, eqT_3, f6.1, f6.2.1, f6l, f6.2.2.2.1, f6e, Int.toNat_natCast, Int.toNat_zero, eqT_9, *, decide_true, decide_false, Decidable.not_not, not_false_eq_true, not_true_eq_false])
    all_goals (first | (simp only [BOOLS]; done) | (simp [*]; done) | ((try simp only [CLOS, beq_iff_eq, bne_iff_ne, ne_eq] at *) <;> omega) | (simp_all; done) | (simp_all <;> omega))
  refine AW.ret ?_
  cases h
  show finish _ _ _ _ _ = _
  first | rfl | (simp [finish, resOf, renArgs, toPV, selObjs, sl])

set_option maxHeartbeats 4000000 in
theorem g_F34 {O : Orc} (hS : Sound env O) (hpf : O.pf = pfn) (c_F48 : C_F48 O) (s1 : Str) (prefix2 : Str) (r3 : Bool) (h : F34 s1 prefix2 = some r3) : Good env 34 [.pv (.str s1), .pv (.str prefix2)] [] [.pv (.bool r3)] [] := by
  have pf_48 : O.pf 48 = true := by rw [hpf]; rfl
  refine Good.start (fn := Tryd.f34) (N := 8) fn_34 rfl rfl (by simp) [] _ rfl rfl ?_
  rw [F34] at h
  refine AW.seq ?_
  refine AW.reg hS [(0, .pv (.str s1)), (1, .pv (.str prefix2))] [] ?_ ?_
  · simp -implicitDefEqProofs only [RUNS, qindex, Nat.reduceAdd, Nat.reduceLeDiff, Nat.reduceSub, reduceIte, Nat.reduceEqDiff, Nat.reduceLT, reduceCtorEq, Nat.reduceMul, Nat.reduceBEq, Int.reduceEq, if_true, if_false, eq_self, ne_eq, env_bT, P31_eq, Redir.pv_eq, P154_eq, Cmd.pv_eq, P32_eq, Word.pv_eq, GValue.pv_eq, P22_eq, Var.pv_eq, P52_eq, GEnv.pv_eq]
  refine AW.seq ?_
  replace h := Option.bind_eq_some_iff.1 h; obtain ⟨r4, q5, h⟩ := h
  have f6 := c_F48 s1 prefix2 r4 q5
  try dsimp only at f6
  refine AW.reg hS [(4, .pv (.bool r4))] [] ?_ ?_
  · simp -implicitDefEqProofs only [RUNS, qindex, Nat.reduceAdd, Nat.reduceLeDiff, Nat.reduceSub, reduceIte, Nat.reduceEqDiff, Nat.reduceLT, reduceCtorEq, Nat.reduceMul, Nat.reduceBEq, Int.reduceEq, if_true, if_false, eq_self, ne_eq, env_bT, T_9, P31_eq, Redir.pv_eq, P154_eq, Cmd.pv_eq, P32_eq, Word.pv_eq, GValue.pv_eq, P22_eq, Var.pv_eq, P52_eq, GEnv.pv_eq, pf_48, f6]
  refine AW.ret ?_
  cases h
  show finish _ _ _ _ _ = _
  first | rfl | (simp [finish, resOf, renArgs, toPV, selObjs, sl])

set_option maxHeartbeats 4000000 in
theorem g_F51 {O : Orc} (hS : Sound env O) (hpf : O.pf = pfn) (c_F48 : C_F48 O) (s1 : Str) (prefix2 : Str) (r3 : Str) (h : F51 s1 prefix2 = some r3) : Good env 51 [.pv (.str s1), .pv (.str prefix2)] [] [.pv (.str r3)] [] := by
  have pf_48 : O.pf 48 = true := by rw [hpf]; rfl
  refine Good.start (fn := Tryd.f51) (N := 13) fn_51 rfl rfl (by simp) [] _ rfl rfl ?_
  rw [F51] at h
  refine AW.seq ?_
  refine AW.reg hS [(0, .pv (.str s1)), (1, .pv (.str prefix2))] [] ?_ ?_
  · simp -implicitDefEqProofs only [RUNS, qindex, Nat.reduceAdd, Nat.reduceLeDiff, Nat.reduceSub, reduceIte, Nat.reduceEqDiff, Nat.reduceLT, reduceCtorEq, Nat.reduceMul, Nat.reduceBEq, Int.reduceEq, if_true, if_false, eq_self, ne_eq, env_bT, P31_eq, Redir.pv_eq, P154_eq, Cmd.pv_eq, P32_eq, Word.pv_eq, GValue.pv_eq, P22_eq, Var.pv_eq, P52_eq, GEnv.pv_eq]
  refine AW.seq ?_
  refine AW.seq ?_
  replace h := Option.bind_eq_some_iff.1 h; obtain ⟨r4, q5, h⟩ := h
  have f6 := c_F48 s1 prefix2 r4 q5
  try dsimp only at f6
  refine AW.reg hS [(0, .pv (.str s1)), (1, .pv (.str prefix2)), (7, .pv (.bool r4))] [] ?_ ?_
  · simp -implicitDefEqProofs only [RUNS, qindex, Nat.reduceAdd, Nat.reduceLeDiff, Nat.reduceSub, reduceIte, Nat.reduceEqDiff, Nat.reduceLT, reduceCtorEq, Nat.reduceMul, Nat.reduceBEq, Int.reduceEq, if_true, if_false, eq_self, ne_eq, env_bT, T_9, P31_eq, Redir.pv_eq, P154_eq, Cmd.pv_eq, P32_eq, Word.pv_eq, GValue.pv_eq, P22_eq, Var.pv_eq, P52_eq, GEnv.pv_eq, pf_48, f6]
  refine AW.cond (b := r4) rfl (fun hb7 => ?_) (fun hb7 => ?_)
  · replace h := bif_t hb7 h
    refine AW.seq ?_
    replace h := Option.bind_eq_some_iff.1 h; obtain ⟨t8, q9, h⟩ := h
    have f10 := sslice_f q9
    have f10e := f10.2.2.2.2
    try simp only [Int.toNat_natCast, Int.toNat_zero, List.drop_zero] at f10e
    have f10l := f10.2.2.1
    try simp only [Int.toNat_natCast, Int.toNat_zero] at f10l
    refine AW.reg hS [(4, .pv (.str t8))] [] ?_ ?_
    · simp -implicitDefEqProofs only [RUNS, qindex, Nat.reduceAdd, Nat.reduceLeDiff, Nat.reduceSub, reduceIte, Nat.reduceEqDiff, Nat.reduceLT, reduceCtorEq, Nat.reduceMul, Nat.reduceBEq, Int.reduceEq, if_true, if_false, eq_self, ne_eq, env_bT, T_9, P31_eq, Redir.pv_eq, P154_eq, Cmd.pv_eq, P32_eq, Word.pv_eq, GValue.pv_eq, P22_eq, Var.pv_eq, P52_eq, GEnv.pv_eq, f10.1, f10.2.1, f10l, f10.2.2.2.1, f10e, Int.toNat_natCast, Int.toNat_zero]
    refine AW.ret ?_
    cases h
    show finish _ _ _ _ _ = _
    first | rfl | (simp [finish, resOf, renArgs, toPV, selObjs, sl])
  · replace h := bif_f hb7 h
    refine AW.skip ?_
    refine AW.seq ?_
    refine AW.reg hS [(4, .pv (.str s1))] [] ?_ ?_
    · simp -implicitDefEqProofs only [RUNS, qindex, Nat.reduceAdd, Nat.reduceLeDiff, Nat.reduceSub, reduceIte, Nat.reduceEqDiff, Nat.reduceLT, reduceCtorEq, Nat.reduceMul, Nat.reduceBEq, Int.reduceEq, if_true, if_false, eq_self, ne_eq, env_bT, P31_eq, Redir.pv_eq, P154_eq, Cmd.pv_eq, P32_eq, Word.pv_eq, GValue.pv_eq, P22_eq, Var.pv_eq, P52_eq, GEnv.pv_eq]
    refine AW.ret ?_
    cases h
    show finish _ _ _ _ _ = _
    first | rfl | (simp [finish, resOf, renArgs, toPV, selObjs, sl])

set_option maxHeartbeats 4000000 in
theorem g_F37 {O : Orc} (hS : Sound env O) (hpf : O.pf = pfn) (c_F51 : C_F51 O) (s1 : Str) (prefix2 : Str) (r3 : Str) (h : F37 s1 prefix2 = some r3) : Good env 37 [.pv (.str s1), .pv (.str prefix2)] [] [.pv (.str r3)] [] := by
  have pf_51 : O.pf 51 = true := by rw [hpf]; rfl
  refine Good.start (fn := Tryd.f37) (N := 8) fn_37 rfl rfl (by simp) [] _ rfl rfl ?_
  rw [F37] at h
  refine AW.seq ?_
  refine AW.reg hS [(0, .pv (.str s1)), (1, .pv (.str prefix2))] [] ?_ ?_
  · simp -implicitDefEqProofs only [RUNS, qindex, Nat.reduceAdd, Nat.reduceLeDiff, Nat.reduceSub, reduceIte, Nat.reduceEqDiff, Nat.reduceLT, reduceCtorEq, Nat.reduceMul, Nat.reduceBEq, Int.reduceEq, if_true, if_false, eq_self, ne_eq, env_bT, P31_eq, Redir.pv_eq, P154_eq, Cmd.pv_eq, P32_eq, Word.pv_eq, GValue.pv_eq, P22_eq, Var.pv_eq, P52_eq, GEnv.pv_eq]
  refine AW.seq ?_
  replace h := Option.bind_eq_some_iff.1 h; obtain ⟨r4, q5, h⟩ := h
  have f6 := c_F51 s1 prefix2 r4 q5
  try dsimp only at f6
  refine AW.reg hS [(4, .pv (.str r4))] [] ?_ ?_
  · simp -implicitDefEqProofs only [RUNS, qindex, Nat.reduceAdd, Nat.reduceLeDiff, Nat.reduceSub, reduceIte, Nat.reduceEqDiff, Nat.reduceLT, reduceCtorEq, Nat.reduceMul, Nat.reduceBEq, Int.reduceEq, if_true, if_false, eq_self, ne_eq, env_bT, T_9, P31_eq, Redir.pv_eq, P154_eq, Cmd.pv_eq, P32_eq, Word.pv_eq, GValue.pv_eq, P22_eq, Var.pv_eq, P52_eq, GEnv.pv_eq, pf_51, f6]
  refine AW.ret ?_
  cases h
  show finish _ _ _ _ _ = _
  first | rfl | (simp [finish, resOf, renArgs, toPV, selObjs, sl])

set_option maxHeartbeats 4000000 in
theorem g_F18 {O : Orc} (hS : Sound env O) (hpf : O.pf = pfn) (c_L_Len : C_L_Len O) (c_L_Cut : C_L_Cut O) (c_L_WriteString : C_L_WriteString O) (c_F33 : C_F33 O) (c_F34 : C_F34 O) (c_F36 : C_F36 O) (c_L_Join : C_L_Join O) (c_F37 : C_F37 O) (c_L_String : C_L_String O) (l1 : List GEnv) (group2 : Int) (s3 : Str) (r4 : Str) (r5 : Int) (h : F18 l1 group2 s3 = some (r4, r5)) : Good env 18 [.pv (.slice (List.map GEnv.pv l1)), .pv (.int .i64 group2), .pv (.str s3)] [] [.pv (.str r4), .pv (.int .i64 r5)] [] := by
  have pf_30 : O.pf 30 = false := by rw [hpf]; rfl
  have pf_31 : O.pf 31 = true := by rw [hpf]; rfl
  have pf_32 : O.pf 32 = false := by rw [hpf]; rfl
  have pf_33 : O.pf 33 = true := by rw [hpf]; rfl
  have pf_34 : O.pf 34 = true := by rw [hpf]; rfl
  have pf_35 : O.pf 35 = true := by rw [hpf]; rfl
  have pf_36 : O.pf 36 = true := by rw [hpf]; rfl
  have pf_37 : O.pf 37 = true := by rw [hpf]; rfl
  have pf_38 : O.pf 38 = false := by rw [hpf]; rfl
  refine Good.start (fn := Tryd.f18) (N := 67) fn_18 rfl rfl (by simp) [] _ rfl rfl ?_
  rw [F18] at h
  refine AW.seq ?_
  refine AW.reg hS [(0, .pv (.slice (List.map GEnv.pv l1))), (1, .pv (.int .i64 group2)), (2, .pv (.str s3))] [] ?_ ?_
  · simp -implicitDefEqProofs only [RUNS, qindex, Nat.reduceAdd, Nat.reduceLeDiff, Nat.reduceSub, reduceIte, Nat.reduceEqDiff, Nat.reduceLT, reduceCtorEq, Nat.reduceMul, Nat.reduceBEq, Int.reduceEq, if_true, if_false, eq_self, ne_eq, env_bT, P31_eq, Redir.pv_eq, P154_eq, Cmd.pv_eq, P32_eq, Word.pv_eq, GValue.pv_eq, P22_eq, Var.pv_eq, P52_eq, GEnv.pv_eq]
  refine AW.seq ?_
  refine AW.reg hS [(0, .pv (.slice (List.map GEnv.pv l1))), (1, .pv (.int .i64 group2)), (2, .pv (.str s3)), (8, .ref 0 0)] [.bld []] ?_ ?_
  · simp -implicitDefEqProofs only [RUNS, qindex, Nat.reduceAdd, Nat.reduceLeDiff, Nat.reduceSub, reduceIte, Nat.reduceEqDiff, Nat.reduceLT, reduceCtorEq, Nat.reduceMul, Nat.reduceBEq, Int.reduceEq, if_true, if_false, eq_self, ne_eq, env_bT, T_66, P31_eq, Redir.pv_eq, P154_eq, Cmd.pv_eq, P32_eq, Word.pv_eq, GValue.pv_eq, P22_eq, Var.pv_eq, P52_eq, GEnv.pv_eq]
  refine AW.seqJ (α := Str) (fun b6 => ⟨sl [(8, .ref 0 0)], 67, [.bld b6]⟩) (fun x => F18_j4 x = some (r4, r5)) ?_ ?_
  · intro b6 h
    rw [F18_j4] at h
    try dsimp only at h
    show AW _ _ _ _ ⟨sl [(8, .ref 0 0)], 67, [.bld b6]⟩
    refine AW.seq ?_
    refine AW.seq ?_
    replace h := Option.bind_eq_some_iff.1 h; obtain ⟨n7, q8, h⟩ := h
    have f9 := c_L_Len b6 n7 q8
    try dsimp only at f9
    have e10 : ecall O [.bld b6] 30 [.ref 0 0] = some (retAV [.pv (.int .i64 n7)], [.bld b6]) := ecall_eq rfl rfl rfl f9 rfl rfl rfl
    refine AW.reg hS [(8, .ref 0 0), (65, .pv (.bool (decide (65536 < n7))))] [.bld b6] ?_ ?_
    · simp -implicitDefEqProofs only [RUNS, qindex, Nat.reduceAdd, Nat.reduceLeDiff, Nat.reduceSub, reduceIte, Nat.reduceEqDiff, Nat.reduceLT, reduceCtorEq, Nat.reduceMul, Nat.reduceBEq, Int.reduceEq, if_true, if_false, eq_self, ne_eq, env_bT, T_3, T_66, P31_eq, Redir.pv_eq, P154_eq, Cmd.pv_eq, P32_eq, Word.pv_eq, GValue.pv_eq, P22_eq, Var.pv_eq, P52_eq, GEnv.pv_eq, pf_30, e10, eqT_3]
    refine AW.cond (b := decide (65536 < n7)) rfl (fun hb11 => ?_) (fun hb11 => ?_)
    · replace h := bif_t hb11 h
      refine AW.seq ?_
      refine AW.reg hS [(6, .pv (.str [])), (7, .pv (.int .i64 4))] [.bld b6] ?_ ?_
      · simp -implicitDefEqProofs only [RUNS, qindex, Nat.reduceAdd, Nat.reduceLeDiff, Nat.reduceSub, reduceIte, Nat.reduceEqDiff, Nat.reduceLT, reduceCtorEq, Nat.reduceMul, Nat.reduceBEq, Int.reduceEq, if_true, if_false, eq_self, ne_eq, env_bT, P31_eq, Redir.pv_eq, P154_eq, Cmd.pv_eq, P32_eq, Word.pv_eq, GValue.pv_eq, P22_eq, Var.pv_eq, P52_eq, GEnv.pv_eq]
      refine AW.ret ?_
      cases h
      show finish _ _ _ _ _ = _
      first | rfl | (simp [finish, resOf, renArgs, toPV, selObjs, sl])
    · replace h := bif_f hb11 h
      refine AW.skip ?_
      refine AW.seq ?_
      replace h := Option.bind_eq_some_iff.1 h; obtain ⟨s12, q13, h⟩ := h
      have f14 := c_L_String b6 s12 q13
      try dsimp only at f14
      have e15 : ecall O [.bld b6] 38 [.ref 0 0] = some (retAV [.pv (.str s12)], [.gone]) := ecall_eq rfl rfl rfl f14 rfl rfl rfl
      refine AW.reg hS [(6, .pv (.str s12)), (7, .pv (.int .i64 0))] [.gone] ?_ ?_
      · simp -implicitDefEqProofs only [RUNS, qindex, Nat.reduceAdd, Nat.reduceLeDiff, Nat.reduceSub, reduceIte, Nat.reduceEqDiff, Nat.reduceLT, reduceCtorEq, Nat.reduceMul, Nat.reduceBEq, Int.reduceEq, if_true, if_false, eq_self, ne_eq, env_bT, T_66, P31_eq, Redir.pv_eq, P154_eq, Cmd.pv_eq, P32_eq, Word.pv_eq, GValue.pv_eq, P22_eq, Var.pv_eq, P52_eq, GEnv.pv_eq, pf_38, e15]
      refine AW.ret ?_
      cases h
      show finish _ _ _ _ _ = _
      first | rfl | (simp [finish, resOf, renArgs, toPV, selObjs, sl])
  refine AW.block ?_
  refine AW.weak (Weak.slots (L := [(0, .pv (.slice (List.map GEnv.pv l1))), (1, .pv (.int .i64 group2)), (2, .pv (.str s3)), (8, .ref 0 0)]) ⟨rfl, rfl, rfl, rfl, trivial⟩) ?_
  refine AW.loopI (α := Nat × Str × Str) (fun (_, s16, b17) => ⟨sl [(0, .pv (.slice (List.map GEnv.pv l1))), (1, .pv (.int .i64 group2)), (2, .pv (.str s16)), (8, .ref 0 0)], 67, [.bld b17]⟩) (fun x => iter (F18_b6 l1 group2) x.1 x.2 = some (r4, r5)) (fun x => x.1) (BIG, (s3, [])) h ?_
  clear h
  intro ⟨n87, s16, b17⟩ h
  replace h := iter_some h; obtain ⟨m20, rfl, h⟩ := h
  rw [F18_b6] at h
  try dsimp only at h
  show AW _ _ _ _ ⟨sl [(0, .pv (.slice (List.map GEnv.pv l1))), (1, .pv (.int .i64 group2)), (2, .pv (.str s16)), (8, .ref 0 0)], 67, [.bld b17]⟩
  refine AW.seq ?_
  refine AW.seq ?_
  refine AW.cases (!decide (s16 = [])) (fun hsp8 => ?_) (fun hsp8 => ?_)
  · replace h := bif_t hsp8 h
    replace h := Option.bind_eq_some_iff.1 h; obtain ⟨n21, q22, h⟩ := h
    have f23 := c_L_Len b17 n21 q22
    try dsimp only at f23
    have e24 : ecall O [.bld b17] 30 [.ref 0 0] = some (retAV [.pv (.int .i64 n21)], [.bld b17]) := ecall_eq rfl rfl rfl f23 rfl rfl rfl
    refine AW.reg hS [(0, .pv (.slice (List.map GEnv.pv l1))), (1, .pv (.int .i64 group2)), (2, .pv (.str s16)), (8, .ref 0 0), (18, .pv (.bool (decide (n21 ≤ 65536))))] [.bld b17] ?_ ?_
    · simp -implicitDefEqProofs only [RUNS, qindex, Nat.reduceAdd, Nat.reduceLeDiff, Nat.reduceSub, reduceIte, Nat.reduceEqDiff, Nat.reduceLT, reduceCtorEq, Nat.reduceMul, Nat.reduceBEq, Int.reduceEq, if_true, if_false, eq_self, ne_eq, env_bT, T_3, T_9, T_66, P31_eq, Redir.pv_eq, P154_eq, Cmd.pv_eq, P32_eq, Word.pv_eq, GValue.pv_eq, P22_eq, Var.pv_eq, P52_eq, GEnv.pv_eq, eqT_9, hsp8, pf_30, e24, eqT_3]
    refine AW.cond (b := decide (n21 ≤ 65536)) rfl (fun hb25 => ?_) (fun hb25 => ?_)
    · replace h := bif_t hb25 h
      refine AW.skip ?_
      refine AW.block ?_
      refine AW.seq ?_
      replace h := Option.bind_eq_some_iff.1 h; obtain ⟨⟨a26, b27, ok28⟩, q29, h⟩ := h
      dsimp only at h
      have f30 := c_L_Cut s16 [36] a26 b27 ok28 q29
      try dsimp only at f30
      try simp only [List.map_cons, List.map_nil, P31_eq, Redir.pv_eq, P154_eq, Cmd.pv_eq, P32_eq, Word.pv_eq, GValue.pv_eq, P22_eq, Var.pv_eq, P52_eq, GEnv.pv_eq] at f30
      refine AW.reg hS [(0, .pv (.slice (List.map GEnv.pv l1))), (1, .pv (.int .i64 group2)), (8, .ref 0 0), (9, .pv (.str a26)), (10, .pv (.str b27)), (11, .pv (.bool ok28))] [.bld b17] ?_ ?_
      · simp -implicitDefEqProofs only [RUNS, qindex, Nat.reduceAdd, Nat.reduceLeDiff, Nat.reduceSub, reduceIte, Nat.reduceEqDiff, Nat.reduceLT, reduceCtorEq, Nat.reduceMul, Nat.reduceBEq, Int.reduceEq, if_true, if_false, eq_self, ne_eq, env_bT, T_9, P31_eq, Redir.pv_eq, P154_eq, Cmd.pv_eq, P32_eq, Word.pv_eq, GValue.pv_eq, P22_eq, Var.pv_eq, P52_eq, GEnv.pv_eq, pf_31, f30]
      refine AW.seq ?_
      replace h := Option.bind_eq_some_iff.1 h; obtain ⟨⟨n31, c32⟩, q33, h⟩ := h
      dsimp only at h
      have f34 := c_L_WriteString b17 a26 n31 c32 q33
      try dsimp only at f34
      have e35 : ecall O [.bld b17] 32 [.ref 0 0, .pv (.str a26)] = some (retAV [.pv (.int .i64 n31), .pv (.nil)], [.bld c32]) := ecall_eq rfl rfl rfl f34 rfl rfl rfl
      refine AW.reg hS [(0, .pv (.slice (List.map GEnv.pv l1))), (1, .pv (.int .i64 group2)), (8, .ref 0 0), (10, .pv (.str b27)), (11, .pv (.bool ok28))] [.bld c32] ?_ ?_
      · simp -implicitDefEqProofs only [RUNS, qindex, Nat.reduceAdd, Nat.reduceLeDiff, Nat.reduceSub, reduceIte, Nat.reduceEqDiff, Nat.reduceLT, reduceCtorEq, Nat.reduceMul, Nat.reduceBEq, Int.reduceEq, if_true, if_false, eq_self, ne_eq, env_bT, T_9, T_66, P31_eq, Redir.pv_eq, P154_eq, Cmd.pv_eq, P32_eq, Word.pv_eq, GValue.pv_eq, P22_eq, Var.pv_eq, P52_eq, GEnv.pv_eq, pf_32, e35]
      refine AW.seq ?_
      refine AW.seq ?_
      refine AW.reg hS [(0, .pv (.slice (List.map GEnv.pv l1))), (1, .pv (.int .i64 group2)), (8, .ref 0 0), (10, .pv (.str b27)), (28, .pv (.bool (!ok28)))] [.bld c32] ?_ ?_
      · simp -implicitDefEqProofs only [RUNS, qindex, Nat.reduceAdd, Nat.reduceLeDiff, Nat.reduceSub, reduceIte, Nat.reduceEqDiff, Nat.reduceLT, reduceCtorEq, Nat.reduceMul, Nat.reduceBEq, Int.reduceEq, if_true, if_false, eq_self, ne_eq, env_bT, P31_eq, Redir.pv_eq, P154_eq, Cmd.pv_eq, P32_eq, Word.pv_eq, GValue.pv_eq, P22_eq, Var.pv_eq, P52_eq, GEnv.pv_eq]
      refine AW.cond (b := !ok28) rfl (fun hb36 => ?_) (fun hb36 => ?_)
      · replace h := bif_t hb36 h
        refine AW.exit ?_
        exact ⟨c32, h, (Weak.norm (m := 1) (Nat.le_of_ble_eq_true rfl) ⟨rfl, trivial⟩ rfl rfl rfl)⟩
      · replace h := bif_f hb36 h
        refine AW.skip ?_
        refine AW.seq ?_
        refine AW.reg hS [(0, .pv (.slice (List.map GEnv.pv l1))), (1, .pv (.int .i64 group2)), (8, .ref 0 0), (10, .pv (.str b27)), (12, .pv (.int .i64 0))] [.bld c32] ?_ ?_
        · simp -implicitDefEqProofs only [RUNS, qindex, Nat.reduceAdd, Nat.reduceLeDiff, Nat.reduceSub, reduceIte, Nat.reduceEqDiff, Nat.reduceLT, reduceCtorEq, Nat.reduceMul, Nat.reduceBEq, Int.reduceEq, if_true, if_false, eq_self, ne_eq, env_bT, P31_eq, Redir.pv_eq, P154_eq, Cmd.pv_eq, P32_eq, Word.pv_eq, GValue.pv_eq, P22_eq, Var.pv_eq, P52_eq, GEnv.pv_eq]
        refine AW.seq ?_
        refine AW.block ?_
        refine AW.weak (Weak.slots (L := [(0, .pv (.slice (List.map GEnv.pv l1))), (1, .pv (.int .i64 group2)), (8, .ref 0 0), (10, .pv (.str b27)), (12, .pv (.int .i64 0))]) ⟨rfl, rfl, rfl, rfl, rfl, trivial⟩) ?_
        refine AW.loopI (α := Nat × Int) (fun (_, n37) => ⟨sl [(0, .pv (.slice (List.map GEnv.pv l1))), (1, .pv (.int .i64 group2)), (8, .ref 0 0), (10, .pv (.str b27)), (12, .pv (.int .i64 n37))], 67, [.bld c32]⟩) (fun x => iter (F18_b7 b27 c32 (iter (F18_b6 l1 group2) m20) l1 group2) x.1 x.2 = some (r4, r5)) (fun x => x.1) (BIG, 0) h ?_
        clear h
        intro ⟨n86, n37⟩ h
        replace h := iter_some h; obtain ⟨m40, rfl, h⟩ := h
        rw [F18_b7] at h
        try dsimp only at h
        show AW _ _ _ _ ⟨sl [(0, .pv (.slice (List.map GEnv.pv l1))), (1, .pv (.int .i64 group2)), (8, .ref 0 0), (10, .pv (.str b27)), (12, .pv (.int .i64 n37))], 67, [.bld c32]⟩
        refine AW.seq ?_
        refine AW.seq ?_
        replace h := Option.bind_eq_some_iff.1 h; obtain ⟨c41, q42, h⟩ := h
        have f43 := sidx_g (guardO_t q42)
        replace h := Option.bind_eq_some_iff.1 h; obtain ⟨r44, q45, h⟩ := h
        have f46 := fun hg => c_F33 c41 r44 (guardO_t q45 hg)
        try dsimp only at f46
        refine AW.reg hS [(0, .pv (.slice (List.map GEnv.pv l1))), (1, .pv (.int .i64 group2)), (8, .ref 0 0), (10, .pv (.str b27)), (12, .pv (.int .i64 n37)), (38, .pv (.bool (decide (n37 < (b27.length : Int)) && r44)))] [.bld c32] ?_ ?_
        · clear h
          (simp -implicitDefEqProofs only [RUNS, qindex, Nat.reduceAdd, Nat.reduceLeDiff, Nat.reduceSub, reduceIte, Nat.reduceEqDiff, Nat.reduceLT, reduceCtorEq, Nat.reduceMul, Nat.reduceBEq, Int.reduceEq, if_true, if_false, eq_self, ne_eq, env_bT, T_3, T_5, T_9, P31_eq, Redir.pv_eq, P154_eq, Cmd.pv_eq, P32_eq, Word.pv_eq, GValue.pv_eq, P22_eq, Var.pv_eq, P52_eq, GEnv.pv_eq, eqT_3, f43.1, f43.2.1, f43.2.2, pf_33, f46]); repeat' (split <;> rename_i hb <;> (try simp only [HBS, ge_iff_le, gt_iff_lt] at hb) <;> simp -implicitDefEqProofs only [RUNS, qindex, Nat.reduceAdd, Nat.reduceLeDiff, Nat.reduceSub, reduceIte, Nat.reduceEqDiff, Nat.reduceLT, reduceCtorEq, Nat.reduceMul, Nat.reduceBEq, Int.reduceEq, if_true, if_false, eq_self, ne_eq, env_bT, T_3, T_5, T_9, P31_eq, Redir.pv_eq, P154_eq, Cmd.pv_eq, P32_eq, Word.pv_eq, GValue.pv_eq, P22_eq, Var.pv_eq, P52_eq, GEnv.pv_eq, eqT_3, f43.1, f43.2.1, f43.2.2, pf_33, f46, *, decide_true, decide_false, Decidable.not_not, not_false_eq_true, not_true_eq_false])
          all_goals (first | (simp only [BOOLS]; done) | (simp [*]; done) | ((try simp only [CLOS, beq_iff_eq, bne_iff_ne, ne_eq] at *) <;> omega) | (simp_all; done) | (simp_all <;> omega))
        refine AW.cond (b := (decide (n37 < (b27.length : Int)) && r44)) rfl (fun hb47 => ?_) (fun hb47 => ?_)
        · replace h := bif_t hb47 h
          refine AW.skip ?_
          refine AW.block ?_
          refine AW.reg hS [(0, .pv (.slice (List.map GEnv.pv l1))), (1, .pv (.int .i64 group2)), (8, .ref 0 0), (10, .pv (.str b27)), (12, .pv (.int .i64 (IntKind.wrap .i64 (n37 + 1))))] [.bld c32] ?_ ?_
          · simp -implicitDefEqProofs only [RUNS, qindex, Nat.reduceAdd, Nat.reduceLeDiff, Nat.reduceSub, reduceIte, Nat.reduceEqDiff, Nat.reduceLT, reduceCtorEq, Nat.reduceMul, Nat.reduceBEq, Int.reduceEq, if_true, if_false, eq_self, ne_eq, env_bT, T_3, P31_eq, Redir.pv_eq, P154_eq, Cmd.pv_eq, P32_eq, Word.pv_eq, GValue.pv_eq, P22_eq, Var.pv_eq, P52_eq, GEnv.pv_eq, eqT_3]
          exact ⟨(m40, IntKind.wrap .i64 (n37 + 1)), h, (Weak.norm (m := 1) (Nat.le_of_ble_eq_true rfl) ⟨rfl, rfl, rfl, rfl, rfl, trivial⟩ rfl rfl rfl), Nat.lt_succ_self _⟩
        · replace h := bif_f hb47 h
          refine AW.exit ?_
          refine AW.block ?_
          refine AW.seq ?_
          replace h := Option.bind_eq_some_iff.1 h; obtain ⟨r48, q49, h⟩ := h
          have f50 := c_F34 b27 [36] r48 q49
          try dsimp only at f50
          try simp only [List.map_cons, List.map_nil, P31_eq, Redir.pv_eq, P154_eq, Cmd.pv_eq, P32_eq, Word.pv_eq, GValue.pv_eq, P22_eq, Var.pv_eq, P52_eq, GEnv.pv_eq] at f50
          refine AW.reg hS [(0, .pv (.slice (List.map GEnv.pv l1))), (1, .pv (.int .i64 group2)), (8, .ref 0 0), (10, .pv (.str b27)), (12, .pv (.int .i64 n37)), (53, .pv (.bool r48))] [.bld c32] ?_ ?_
          · simp -implicitDefEqProofs only [RUNS, qindex, Nat.reduceAdd, Nat.reduceLeDiff, Nat.reduceSub, reduceIte, Nat.reduceEqDiff, Nat.reduceLT, reduceCtorEq, Nat.reduceMul, Nat.reduceBEq, Int.reduceEq, if_true, if_false, eq_self, ne_eq, env_bT, T_9, P31_eq, Redir.pv_eq, P154_eq, Cmd.pv_eq, P32_eq, Word.pv_eq, GValue.pv_eq, P22_eq, Var.pv_eq, P52_eq, GEnv.pv_eq, pf_34, f50]
          refine AW.cond (b := r48) rfl (fun hb51 => ?_) (fun hb51 => ?_)
          · replace h := bif_t hb51 h
            refine AW.seq ?_
            replace h := Option.bind_eq_some_iff.1 h; obtain ⟨⟨n52, c53⟩, q54, h⟩ := h
            dsimp only at h
            have f55 := c_L_WriteString c32 [36] n52 c53 q54
            try dsimp only at f55
            try simp only [List.map_cons, List.map_nil, P31_eq, Redir.pv_eq, P154_eq, Cmd.pv_eq, P32_eq, Word.pv_eq, GValue.pv_eq, P22_eq, Var.pv_eq, P52_eq, GEnv.pv_eq] at f55
            have e56 : ecall O [.bld c32] 32 [.ref 0 0, .pv (.str [36])] = some (retAV [.pv (.int .i64 n52), .pv (.nil)], [.bld c53]) := ecall_eq rfl rfl rfl f55 rfl rfl rfl
            refine AW.reg hS [(0, .pv (.slice (List.map GEnv.pv l1))), (1, .pv (.int .i64 group2)), (8, .ref 0 0), (10, .pv (.str b27))] [.bld c53] ?_ ?_
            · simp -implicitDefEqProofs only [RUNS, qindex, Nat.reduceAdd, Nat.reduceLeDiff, Nat.reduceSub, reduceIte, Nat.reduceEqDiff, Nat.reduceLT, reduceCtorEq, Nat.reduceMul, Nat.reduceBEq, Int.reduceEq, if_true, if_false, eq_self, ne_eq, env_bT, T_9, T_66, P31_eq, Redir.pv_eq, P154_eq, Cmd.pv_eq, P32_eq, Word.pv_eq, GValue.pv_eq, P22_eq, Var.pv_eq, P52_eq, GEnv.pv_eq, pf_32, e56]
            replace h := Option.bind_eq_some_iff.1 h; obtain ⟨t57, q58, h⟩ := h
            have f59 := sslice_f q58
            have f59e := f59.2.2.2.2
            try simp only [Int.toNat_natCast, Int.toNat_zero, List.drop_zero] at f59e
            have f59l := f59.2.2.1
            try simp only [Int.toNat_natCast, Int.toNat_zero] at f59l
            refine AW.reg hS [(0, .pv (.slice (List.map GEnv.pv l1))), (1, .pv (.int .i64 group2)), (2, .pv (.str t57)), (8, .ref 0 0)] [.bld c53] ?_ ?_
            · simp -implicitDefEqProofs only [RUNS, qindex, Nat.reduceAdd, Nat.reduceLeDiff, Nat.reduceSub, reduceIte, Nat.reduceEqDiff, Nat.reduceLT, reduceCtorEq, Nat.reduceMul, Nat.reduceBEq, Int.reduceEq, if_true, if_false, eq_self, ne_eq, env_bT, T_9, P31_eq, Redir.pv_eq, P154_eq, Cmd.pv_eq, P32_eq, Word.pv_eq, GValue.pv_eq, P22_eq, Var.pv_eq, P52_eq, GEnv.pv_eq, f59.1, f59.2.1, f59l, f59.2.2.2.1, f59e, Int.toNat_natCast, Int.toNat_zero]
            exact ⟨(m20, (t57, c53)), h, (Weak.norm (m := 1) (Nat.le_of_ble_eq_true rfl) ⟨rfl, rfl, rfl, rfl, trivial⟩ rfl rfl rfl), Nat.lt_succ_self _⟩
          · replace h := bif_f hb51 h
            refine AW.seq ?_
            refine AW.reg hS [(0, .pv (.slice (List.map GEnv.pv l1))), (1, .pv (.int .i64 group2)), (8, .ref 0 0), (10, .pv (.str b27)), (12, .pv (.int .i64 n37)), (59, .pv (.bool (decide (n37 = 0))))] [.bld c32] ?_ ?_
            · simp -implicitDefEqProofs only [RUNS, qindex, Nat.reduceAdd, Nat.reduceLeDiff, Nat.reduceSub, reduceIte, Nat.reduceEqDiff, Nat.reduceLT, reduceCtorEq, Nat.reduceMul, Nat.reduceBEq, Int.reduceEq, if_true, if_false, eq_self, ne_eq, env_bT, T_3, P31_eq, Redir.pv_eq, P154_eq, Cmd.pv_eq, P32_eq, Word.pv_eq, GValue.pv_eq, P22_eq, Var.pv_eq, P52_eq, GEnv.pv_eq, eqT_3]
            refine AW.cond (b := decide (n37 = 0)) rfl (fun hb60 => ?_) (fun hb60 => ?_)
            · replace h := bif_t hb60 h
              refine AW.seq ?_
              replace h := Option.bind_eq_some_iff.1 h; obtain ⟨⟨n61, c62⟩, q63, h⟩ := h
              dsimp only at h
              have f64 := c_L_WriteString c32 [36] n61 c62 q63
              try dsimp only at f64
              try simp only [List.map_cons, List.map_nil, P31_eq, Redir.pv_eq, P154_eq, Cmd.pv_eq, P32_eq, Word.pv_eq, GValue.pv_eq, P22_eq, Var.pv_eq, P52_eq, GEnv.pv_eq] at f64
              have e65 : ecall O [.bld c32] 32 [.ref 0 0, .pv (.str [36])] = some (retAV [.pv (.int .i64 n61), .pv (.nil)], [.bld c62]) := ecall_eq rfl rfl rfl f64 rfl rfl rfl
              refine AW.reg hS [(0, .pv (.slice (List.map GEnv.pv l1))), (1, .pv (.int .i64 group2)), (8, .ref 0 0), (10, .pv (.str b27))] [.bld c62] ?_ ?_
              · simp -implicitDefEqProofs only [RUNS, qindex, Nat.reduceAdd, Nat.reduceLeDiff, Nat.reduceSub, reduceIte, Nat.reduceEqDiff, Nat.reduceLT, reduceCtorEq, Nat.reduceMul, Nat.reduceBEq, Int.reduceEq, if_true, if_false, eq_self, ne_eq, env_bT, T_9, T_66, P31_eq, Redir.pv_eq, P154_eq, Cmd.pv_eq, P32_eq, Word.pv_eq, GValue.pv_eq, P22_eq, Var.pv_eq, P52_eq, GEnv.pv_eq, pf_32, e65]
              refine AW.reg hS [(0, .pv (.slice (List.map GEnv.pv l1))), (1, .pv (.int .i64 group2)), (2, .pv (.str b27)), (8, .ref 0 0)] [.bld c62] ?_ ?_
              · simp -implicitDefEqProofs only [RUNS, qindex, Nat.reduceAdd, Nat.reduceLeDiff, Nat.reduceSub, reduceIte, Nat.reduceEqDiff, Nat.reduceLT, reduceCtorEq, Nat.reduceMul, Nat.reduceBEq, Int.reduceEq, if_true, if_false, eq_self, ne_eq, env_bT, P31_eq, Redir.pv_eq, P154_eq, Cmd.pv_eq, P32_eq, Word.pv_eq, GValue.pv_eq, P22_eq, Var.pv_eq, P52_eq, GEnv.pv_eq]
              exact ⟨(m20, (b27, c62)), h, (Weak.norm (m := 1) (Nat.le_of_ble_eq_true rfl) ⟨rfl, rfl, rfl, rfl, trivial⟩ rfl rfl rfl), Nat.lt_succ_self _⟩
            · replace h := bif_f hb60 h
              refine AW.seq ?_
              replace h := Option.bind_eq_some_iff.1 h; obtain ⟨t66, q67, h⟩ := h
              have f68 := sslice_f q67
              have f68e := f68.2.2.2.2
              try simp only [Int.toNat_natCast, Int.toNat_zero, List.drop_zero] at f68e
              have f68l := f68.2.2.1
              try simp only [Int.toNat_natCast, Int.toNat_zero] at f68l
              replace h := Option.bind_eq_some_iff.1 h; obtain ⟨r69, q70, h⟩ := h
              have f71 := c_F36 l1 group2 t66 r69 q70
              try dsimp only at f71
              replace h := Option.bind_eq_some_iff.1 h; obtain ⟨s72, q73, h⟩ := h
              have f74 := c_L_Join r69 [32] s72 q73
              try dsimp only at f74
              try simp only [List.map_cons, List.map_nil, P31_eq, Redir.pv_eq, P154_eq, Cmd.pv_eq, P32_eq, Word.pv_eq, GValue.pv_eq, P22_eq, Var.pv_eq, P52_eq, GEnv.pv_eq] at f74
              replace h := Option.bind_eq_some_iff.1 h; obtain ⟨⟨n75, c76⟩, q77, h⟩ := h
              dsimp only at h
              have f78 := c_L_WriteString c32 s72 n75 c76 q77
              try dsimp only at f78
              have e79 : ecall O [.bld c32] 32 [.ref 0 0, .pv (.str s72)] = some (retAV [.pv (.int .i64 n75), .pv (.nil)], [.bld c76]) := ecall_eq rfl rfl rfl f78 rfl rfl rfl
              refine AW.reg hS [(0, .pv (.slice (List.map GEnv.pv l1))), (1, .pv (.int .i64 group2)), (8, .ref 0 0), (10, .pv (.str b27)), (12, .pv (.int .i64 n37))] [.bld c76] ?_ ?_
              · simp -implicitDefEqProofs only [RUNS, qindex, Nat.reduceAdd, Nat.reduceLeDiff, Nat.reduceSub, reduceIte, Nat.reduceEqDiff, Nat.reduceLT, reduceCtorEq, Nat.reduceMul, Nat.reduceBEq, Int.reduceEq, if_true, if_false, eq_self, ne_eq, env_bT, T_3, T_9, T_22, T_30, T_54, T_66, P31_eq, Redir.pv_eq, P154_eq, Cmd.pv_eq, P32_eq, Word.pv_eq, GValue.pv_eq, P22_eq, Var.pv_eq, P52_eq, GEnv.pv_eq, f68.1, f68.2.1, f68l, f68.2.2.2.1, f68e, Int.toNat_natCast, Int.toNat_zero, pf_36, f71, pf_35, f74, pf_32, e79]
              replace h := Option.bind_eq_some_iff.1 h; obtain ⟨t80, q81, h⟩ := h
              have f82 := sslice_f q81
              have f82e := f82.2.2.2.2
              try simp only [Int.toNat_natCast, Int.toNat_zero, List.drop_zero] at f82e
              have f82l := f82.2.2.1
              try simp only [Int.toNat_natCast, Int.toNat_zero] at f82l
              replace h := Option.bind_eq_some_iff.1 h; obtain ⟨r83, q84, h⟩ := h
              have f85 := c_F37 t80 [94] r83 q84
              try dsimp only at f85
              try simp only [List.map_cons, List.map_nil, P31_eq, Redir.pv_eq, P154_eq, Cmd.pv_eq, P32_eq, Word.pv_eq, GValue.pv_eq, P22_eq, Var.pv_eq, P52_eq, GEnv.pv_eq] at f85
              refine AW.reg hS [(0, .pv (.slice (List.map GEnv.pv l1))), (1, .pv (.int .i64 group2)), (2, .pv (.str r83)), (8, .ref 0 0)] [.bld c76] ?_ ?_
              · simp -implicitDefEqProofs only [RUNS, qindex, Nat.reduceAdd, Nat.reduceLeDiff, Nat.reduceSub, reduceIte, Nat.reduceEqDiff, Nat.reduceLT, reduceCtorEq, Nat.reduceMul, Nat.reduceBEq, Int.reduceEq, if_true, if_false, eq_self, ne_eq, env_bT, T_9, P31_eq, Redir.pv_eq, P154_eq, Cmd.pv_eq, P32_eq, Word.pv_eq, GValue.pv_eq, P22_eq, Var.pv_eq, P52_eq, GEnv.pv_eq, f82.1, f82.2.1, f82l, f82.2.2.2.1, f82e, Int.toNat_natCast, Int.toNat_zero, pf_37, f85]
              exact ⟨(m20, (r83, c76)), h, (Weak.norm (m := 1) (Nat.le_of_ble_eq_true rfl) ⟨rfl, rfl, rfl, rfl, trivial⟩ rfl rfl rfl), Nat.lt_succ_self _⟩
    · replace h := bif_f hb25 h
      refine AW.exit ?_
      exact ⟨b17, h, (Weak.norm (m := 1) (Nat.le_of_ble_eq_true rfl) ⟨rfl, trivial⟩ rfl rfl rfl)⟩
  · replace h := bif_f hsp8 h
    refine AW.reg hS [(0, .pv (.slice (List.map GEnv.pv l1))), (1, .pv (.int .i64 group2)), (2, .pv (.str s16)), (8, .ref 0 0), (18, .pv (.bool false))] [.bld b17] ?_ ?_
    · simp -implicitDefEqProofs only [RUNS, qindex, Nat.reduceAdd, Nat.reduceLeDiff, Nat.reduceSub, reduceIte, Nat.reduceEqDiff, Nat.reduceLT, reduceCtorEq, Nat.reduceMul, Nat.reduceBEq, Int.reduceEq, if_true, if_false, eq_self, ne_eq, env_bT, T_3, T_9, T_66, P31_eq, Redir.pv_eq, P154_eq, Cmd.pv_eq, P32_eq, Word.pv_eq, GValue.pv_eq, P22_eq, Var.pv_eq, P52_eq, GEnv.pv_eq, eqT_9, hsp8]
    refine AW.cond (b := false) rfl (fun hb => absurd hb (by decide)) (fun _ => ?_)
    refine AW.exit ?_
    exact ⟨b17, h, (Weak.norm (m := 1) (Nat.le_of_ble_eq_true rfl) ⟨rfl, trivial⟩ rfl rfl rfl)⟩

set_option maxHeartbeats 4000000 in
theorem g_F13 {O : Orc} (hS : Sound env O) (hpf : O.pf = pfn) (a1 : List Str) (b2 : List Str) (r3 : Bool) (h : F13 a1 b2 = some r3) : Good env 13 [.pv (.slice (List.map PV.str a1)), .pv (.slice (List.map PV.str b2))] [] [.pv (.bool r3)] [] := by
  refine Good.start (fn := Tryd.f13) (N := 26) fn_13 rfl rfl (by simp) [] _ rfl rfl ?_
  rw [F13] at h
  refine AW.seq ?_
  refine AW.reg hS [(0, .pv (.slice (List.map PV.str a1))), (1, .pv (.slice (List.map PV.str b2)))] [] ?_ ?_
  · simp -implicitDefEqProofs only [RUNS, qindex, Nat.reduceAdd, Nat.reduceLeDiff, Nat.reduceSub, reduceIte, Nat.reduceEqDiff, Nat.reduceLT, reduceCtorEq, Nat.reduceMul, Nat.reduceBEq, Int.reduceEq, if_true, if_false, eq_self, ne_eq, env_bT, P31_eq, Redir.pv_eq, P154_eq, Cmd.pv_eq, P32_eq, Word.pv_eq, GValue.pv_eq, P22_eq, Var.pv_eq, P52_eq, GEnv.pv_eq]
  refine AW.seq ?_
  refine AW.seq ?_
  refine AW.reg hS [(0, .pv (.slice (List.map PV.str a1))), (1, .pv (.slice (List.map PV.str b2))), (10, .pv (.bool (!decide ((a1.length : Int) = (b2.length : Int)))))] [] ?_ ?_
  · simp -implicitDefEqProofs only [RUNS, qindex, Nat.reduceAdd, Nat.reduceLeDiff, Nat.reduceSub, reduceIte, Nat.reduceEqDiff, Nat.reduceLT, reduceCtorEq, Nat.reduceMul, Nat.reduceBEq, Int.reduceEq, if_true, if_false, eq_self, ne_eq, env_bT, T_3, T_9, T_22, P31_eq, Redir.pv_eq, P154_eq, Cmd.pv_eq, P32_eq, Word.pv_eq, GValue.pv_eq, P22_eq, Var.pv_eq, P52_eq, GEnv.pv_eq, eqT_3]
  refine AW.cond (b := !decide ((a1.length : Int) = (b2.length : Int))) rfl (fun hb4 => ?_) (fun hb4 => ?_)
  · replace h := bif_t hb4 h
    refine AW.seq ?_
    refine AW.reg hS [(4, .pv (.bool false))] [] ?_ ?_
    · simp -implicitDefEqProofs only [RUNS, qindex, Nat.reduceAdd, Nat.reduceLeDiff, Nat.reduceSub, reduceIte, Nat.reduceEqDiff, Nat.reduceLT, reduceCtorEq, Nat.reduceMul, Nat.reduceBEq, Int.reduceEq, if_true, if_false, eq_self, ne_eq, env_bT, P31_eq, Redir.pv_eq, P154_eq, Cmd.pv_eq, P32_eq, Word.pv_eq, GValue.pv_eq, P22_eq, Var.pv_eq, P52_eq, GEnv.pv_eq]
    refine AW.ret ?_
    cases h
    show finish _ _ _ _ _ = _
    first | rfl | (simp [finish, resOf, renArgs, toPV, selObjs, sl])
  · replace h := bif_f hb4 h
    refine AW.skip ?_
    refine AW.seq ?_
    refine AW.seq ?_
    refine AW.reg hS [(0, .pv (.slice (List.map PV.str a1))), (1, .pv (.slice (List.map PV.str b2))), (5, .pv (.int .i64 0))] [] ?_ ?_
    · simp -implicitDefEqProofs only [RUNS, qindex, Nat.reduceAdd, Nat.reduceLeDiff, Nat.reduceSub, reduceIte, Nat.reduceEqDiff, Nat.reduceLT, reduceCtorEq, Nat.reduceMul, Nat.reduceBEq, Int.reduceEq, if_true, if_false, eq_self, ne_eq, env_bT, P31_eq, Redir.pv_eq, P154_eq, Cmd.pv_eq, P32_eq, Word.pv_eq, GValue.pv_eq, P22_eq, Var.pv_eq, P52_eq, GEnv.pv_eq]
    refine AW.block ?_
    refine AW.weak (Weak.slots (L := [(0, .pv (.slice (List.map PV.str a1))), (1, .pv (.slice (List.map PV.str b2))), (5, .pv (.int .i64 0))]) ⟨rfl, rfl, rfl, trivial⟩) ?_
    refine AW.loopI (α := Nat × Int) (fun (_, i5) => ⟨sl [(0, .pv (.slice (List.map PV.str a1))), (1, .pv (.slice (List.map PV.str b2))), (5, .pv (.int .i64 i5))], 26, []⟩) (fun x => iter (F13_b1 a1 b2) x.1 x.2 = some r3) (fun x => x.1) (BIG, 0) h ?_
    clear h
    intro ⟨n17, i5⟩ h
    replace h := iter_some h; obtain ⟨m8, rfl, h⟩ := h
    rw [F13_b1] at h
    try dsimp only at h
    show AW _ _ _ _ ⟨sl [(0, .pv (.slice (List.map PV.str a1))), (1, .pv (.slice (List.map PV.str b2))), (5, .pv (.int .i64 i5))], 26, []⟩
    refine AW.seq ?_
    refine AW.seq ?_
    refine AW.reg hS [(0, .pv (.slice (List.map PV.str a1))), (1, .pv (.slice (List.map PV.str b2))), (5, .pv (.int .i64 i5)), (14, .pv (.bool (decide (i5 < (a1.length : Int)))))] [] ?_ ?_
    · simp -implicitDefEqProofs only [RUNS, qindex, Nat.reduceAdd, Nat.reduceLeDiff, Nat.reduceSub, reduceIte, Nat.reduceEqDiff, Nat.reduceLT, reduceCtorEq, Nat.reduceMul, Nat.reduceBEq, Int.reduceEq, if_true, if_false, eq_self, ne_eq, env_bT, T_3, T_9, T_22, P31_eq, Redir.pv_eq, P154_eq, Cmd.pv_eq, P32_eq, Word.pv_eq, GValue.pv_eq, P22_eq, Var.pv_eq, P52_eq, GEnv.pv_eq, eqT_3]
    refine AW.cond (b := decide (i5 < (a1.length : Int))) rfl (fun hb9 => ?_) (fun hb9 => ?_)
    · replace h := bif_t hb9 h
      refine AW.skip ?_
      refine AW.seq ?_
      refine AW.block ?_
      refine AW.seq ?_
      replace h := Option.bind_eq_some_iff.1 h; obtain ⟨w10, q11, h⟩ := h
      have f12 := lidx_f q11
      replace h := Option.bind_eq_some_iff.1 h; obtain ⟨w13, q14, h⟩ := h
      have f15 := lidx_f q14
      refine AW.dreg mixed hS (hpf ▸ (by kernel_rfl : orderOK pfn _ = true)) [(0, .pv (.slice (List.map PV.str a1))), (1, .pv (.slice (List.map PV.str b2))), (5, .pv (.int .i64 i5)), (25, .pv (.bool (!decide (w10 = w13))))] [] ?_ ?_
      · simp -implicitDefEqProofs only [RUNS, qindex, Nat.reduceAdd, Nat.reduceLeDiff, Nat.reduceSub, reduceIte, Nat.reduceEqDiff, Nat.reduceLT, reduceCtorEq, Nat.reduceMul, Nat.reduceBEq, Int.reduceEq, if_true, if_false, eq_self, ne_eq, env_bT, T_9, T_22, P31_eq, Redir.pv_eq, P154_eq, Cmd.pv_eq, P32_eq, Word.pv_eq, GValue.pv_eq, P22_eq, Var.pv_eq, P52_eq, GEnv.pv_eq, f12.1, f12.2.1, f15.1, f15.2.1, eqT_9]
      refine AW.cond (b := !decide (w10 = w13)) rfl (fun hb16 => ?_) (fun hb16 => ?_)
      · replace h := bif_t hb16 h
        refine AW.seq ?_
        refine AW.reg hS [(4, .pv (.bool false))] [] ?_ ?_
        · simp -implicitDefEqProofs only [RUNS, qindex, Nat.reduceAdd, Nat.reduceLeDiff, Nat.reduceSub, reduceIte, Nat.reduceEqDiff, Nat.reduceLT, reduceCtorEq, Nat.reduceMul, Nat.reduceBEq, Int.reduceEq, if_true, if_false, eq_self, ne_eq, env_bT, P31_eq, Redir.pv_eq, P154_eq, Cmd.pv_eq, P32_eq, Word.pv_eq, GValue.pv_eq, P22_eq, Var.pv_eq, P52_eq, GEnv.pv_eq]
        refine AW.ret ?_
        cases h
        show finish _ _ _ _ _ = _
        first | rfl | (simp [finish, resOf, renArgs, toPV, selObjs, sl])
      · replace h := bif_f hb16 h
        refine AW.skip ?_
        refine AW.reg hS [(0, .pv (.slice (List.map PV.str a1))), (1, .pv (.slice (List.map PV.str b2))), (5, .pv (.int .i64 (IntKind.wrap .i64 (i5 + 1))))] [] ?_ ?_
        · simp -implicitDefEqProofs only [RUNS, qindex, Nat.reduceAdd, Nat.reduceLeDiff, Nat.reduceSub, reduceIte, Nat.reduceEqDiff, Nat.reduceLT, reduceCtorEq, Nat.reduceMul, Nat.reduceBEq, Int.reduceEq, if_true, if_false, eq_self, ne_eq, env_bT, T_3, P31_eq, Redir.pv_eq, P154_eq, Cmd.pv_eq, P32_eq, Word.pv_eq, GValue.pv_eq, P22_eq, Var.pv_eq, P52_eq, GEnv.pv_eq, eqT_3]
        exact ⟨(m8, IntKind.wrap .i64 (i5 + 1)), h, (Weak.norm (m := 0) (Nat.le_of_ble_eq_true rfl) ⟨rfl, rfl, rfl, trivial⟩ rfl rfl rfl), Nat.lt_succ_self _⟩
    · replace h := bif_f hb9 h
      refine AW.exit ?_
      refine AW.seq ?_
      refine AW.reg hS [(4, .pv (.bool true))] [] ?_ ?_
      · simp -implicitDefEqProofs only [RUNS, qindex, Nat.reduceAdd, Nat.reduceLeDiff, Nat.reduceSub, reduceIte, Nat.reduceEqDiff, Nat.reduceLT, reduceCtorEq, Nat.reduceMul, Nat.reduceBEq, Int.reduceEq, if_true, if_false, eq_self, ne_eq, env_bT, P31_eq, Redir.pv_eq, P154_eq, Cmd.pv_eq, P32_eq, Word.pv_eq, GValue.pv_eq, P22_eq, Var.pv_eq, P52_eq, GEnv.pv_eq]
      refine AW.ret ?_
      cases h
      show finish _ _ _ _ _ = _
      first | rfl | (simp [finish, resOf, renArgs, toPV, selObjs, sl])

set_option maxHeartbeats 4000000 in
theorem g_F19 {O : Orc} (hS : Sound env O) (hpf : O.pf = pfn) (c_L_IndexByte : C_L_IndexByte O) (s1 : Str) (ifs2 : Str) (r3 : List Str) (h : F19 s1 ifs2 = some r3) : Good env 19 [.pv (.str s1), .pv (.str ifs2)] [] [.pv (.slice (List.map PV.str r3))] [] := by
  have pf_39 : O.pf 39 = true := by rw [hpf]; rfl
  refine Good.start (fn := Tryd.f19) (N := 39) fn_19 rfl rfl (by simp) [] _ rfl rfl ?_
  rw [F19] at h
  refine AW.seq ?_
  refine AW.reg hS [(0, .pv (.str s1)), (1, .pv (.str ifs2))] [] ?_ ?_
  · simp -implicitDefEqProofs only [RUNS, qindex, Nat.reduceAdd, Nat.reduceLeDiff, Nat.reduceSub, reduceIte, Nat.reduceEqDiff, Nat.reduceLT, reduceCtorEq, Nat.reduceMul, Nat.reduceBEq, Int.reduceEq, if_true, if_false, eq_self, ne_eq, env_bT, P31_eq, Redir.pv_eq, P154_eq, Cmd.pv_eq, P32_eq, Word.pv_eq, GValue.pv_eq, P22_eq, Var.pv_eq, P52_eq, GEnv.pv_eq]
  refine AW.seq ?_
  refine AW.reg hS [(0, .pv (.str s1)), (1, .pv (.str ifs2)), (5, .nils)] [] ?_ ?_
  · simp -implicitDefEqProofs only [RUNS, qindex, Nat.reduceAdd, Nat.reduceLeDiff, Nat.reduceSub, reduceIte, Nat.reduceEqDiff, Nat.reduceLT, reduceCtorEq, Nat.reduceMul, Nat.reduceBEq, Int.reduceEq, if_true, if_false, eq_self, ne_eq, env_bT, P31_eq, Redir.pv_eq, P154_eq, Cmd.pv_eq, P32_eq, Word.pv_eq, GValue.pv_eq, P22_eq, Var.pv_eq, P52_eq, GEnv.pv_eq]
  refine AW.weak (Weak.own 5 9 1 (by decide) rfl) ?_
  refine AW.weak (Weak.slots (L := [(0, .pv (.str s1)), (1, .pv (.str ifs2)), (5, .vec 0 (List.length ([] : List Str)))]) ⟨rfl, rfl, rfl, trivial⟩) ?_
  refine AW.seq ?_
  refine AW.reg hS [(0, .pv (.str s1)), (1, .pv (.str ifs2)), (5, .vec 0 (List.length ([] : List Str))), (6, .pv (.int .i64 0))] [.row 9 1 (List.map PV.str ([] : List Str)) true] ?_ ?_
  · simp -implicitDefEqProofs only [RUNS, qindex, Nat.reduceAdd, Nat.reduceLeDiff, Nat.reduceSub, reduceIte, Nat.reduceEqDiff, Nat.reduceLT, reduceCtorEq, Nat.reduceMul, Nat.reduceBEq, Int.reduceEq, if_true, if_false, eq_self, ne_eq, env_bT, P31_eq, Redir.pv_eq, P154_eq, Cmd.pv_eq, P32_eq, Word.pv_eq, GValue.pv_eq, P22_eq, Var.pv_eq, P52_eq, GEnv.pv_eq]
  refine AW.seq ?_
  refine AW.seq ?_
  refine AW.reg hS [(0, .pv (.str s1)), (1, .pv (.str ifs2)), (5, .vec 0 (List.length ([] : List Str))), (6, .pv (.int .i64 0)), (7, .pv (.int .i64 0))] [.row 9 1 (List.map PV.str ([] : List Str)) true] ?_ ?_
  · simp -implicitDefEqProofs only [RUNS, qindex, Nat.reduceAdd, Nat.reduceLeDiff, Nat.reduceSub, reduceIte, Nat.reduceEqDiff, Nat.reduceLT, reduceCtorEq, Nat.reduceMul, Nat.reduceBEq, Int.reduceEq, if_true, if_false, eq_self, ne_eq, env_bT, P31_eq, Redir.pv_eq, P154_eq, Cmd.pv_eq, P32_eq, Word.pv_eq, GValue.pv_eq, P22_eq, Var.pv_eq, P52_eq, GEnv.pv_eq]
  refine AW.block ?_
  refine AW.weak (Weak.slots (L := [(0, .pv (.str s1)), (1, .pv (.str ifs2)), (5, .vec 0 (List.length ([] : List Str))), (6, .pv (.int .i64 0)), (7, .pv (.int .i64 0))]) ⟨rfl, rfl, rfl, rfl, rfl, trivial⟩) ?_
  refine AW.loopI (α := Nat × Int × Int × (List Str)) (fun (_, from4, i5, l6) => ⟨sl [(0, .pv (.str s1)), (1, .pv (.str ifs2)), (5, .vec 0 (List.length l6)), (6, .pv (.int .i64 from4)), (7, .pv (.int .i64 i5))], 39, [.row 9 1 (List.map PV.str l6) true]⟩) (fun x => iter (F19_b1 s1 ifs2) x.1 x.2 = some r3) (fun x => x.1) (BIG, (0, 0, ([] : List Str))) h ?_
  clear h
  intro ⟨n25, from4, i5, l6⟩ h
  replace h := iter_some h; obtain ⟨m9, rfl, h⟩ := h
  rw [F19_b1] at h
  try dsimp only at h
  show AW _ _ _ _ ⟨sl [(0, .pv (.str s1)), (1, .pv (.str ifs2)), (5, .vec 0 (List.length l6)), (6, .pv (.int .i64 from4)), (7, .pv (.int .i64 i5))], 39, [.row 9 1 (List.map PV.str l6) true]⟩
  refine AW.seq ?_
  refine AW.seq ?_
  refine AW.reg hS [(0, .pv (.str s1)), (1, .pv (.str ifs2)), (5, .vec 0 (List.length l6)), (6, .pv (.int .i64 from4)), (7, .pv (.int .i64 i5)), (11, .pv (.bool (decide (i5 ≤ (s1.length : Int)))))] [.row 9 1 (List.map PV.str l6) true] ?_ ?_
  · simp -implicitDefEqProofs only [RUNS, qindex, Nat.reduceAdd, Nat.reduceLeDiff, Nat.reduceSub, reduceIte, Nat.reduceEqDiff, Nat.reduceLT, reduceCtorEq, Nat.reduceMul, Nat.reduceBEq, Int.reduceEq, if_true, if_false, eq_self, ne_eq, env_bT, T_3, T_9, P31_eq, Redir.pv_eq, P154_eq, Cmd.pv_eq, P32_eq, Word.pv_eq, GValue.pv_eq, P22_eq, Var.pv_eq, P52_eq, GEnv.pv_eq, eqT_3]
  refine AW.cond (b := decide (i5 ≤ (s1.length : Int))) rfl (fun hb10 => ?_) (fun hb10 => ?_)
  · replace h := bif_t hb10 h
    refine AW.skip ?_
    refine AW.seq ?_
    refine AW.block ?_
    refine AW.seq ?_
    refine AW.seq ?_
    replace h := Option.bind_eq_some_iff.1 h; obtain ⟨c11, q12, h⟩ := h
    have f13 := sidx_g (guardO_t q12)
    replace h := Option.bind_eq_some_iff.1 h; obtain ⟨n14, q15, h⟩ := h
    have f16 := fun hg => c_L_IndexByte ifs2 c11 n14 (guardO_t q15 hg)
    try dsimp only at f16
    refine AW.reg hS [(0, .pv (.str s1)), (1, .pv (.str ifs2)), (5, .vec 0 (List.length l6)), (6, .pv (.int .i64 from4)), (7, .pv (.int .i64 i5)), (25, .pv (.bool (decide (i5 < (s1.length : Int)) && decide (n14 < 0))))] [.row 9 1 (List.map PV.str l6) true] ?_ ?_
    · clear h
      (simp -implicitDefEqProofs only [RUNS, qindex, Nat.reduceAdd, Nat.reduceLeDiff, Nat.reduceSub, reduceIte, Nat.reduceEqDiff, Nat.reduceLT, reduceCtorEq, Nat.reduceMul, Nat.reduceBEq, Int.reduceEq, if_true, if_false, eq_self, ne_eq, env_bT, T_3, T_5, T_9, P31_eq, Redir.pv_eq, P154_eq, Cmd.pv_eq, P32_eq, Word.pv_eq, GValue.pv_eq, P22_eq, Var.pv_eq, P52_eq, GEnv.pv_eq, eqT_3, f13.1, f13.2.1, f13.2.2, pf_39, f16]); repeat' (split <;> rename_i hb <;> (try simp only [HBS, ge_iff_le, gt_iff_lt] at hb) <;> simp -implicitDefEqProofs only [RUNS, qindex, Nat.reduceAdd, Nat.reduceLeDiff, Nat.reduceSub, reduceIte, Nat.reduceEqDiff, Nat.reduceLT, reduceCtorEq, Nat.reduceMul, Nat.reduceBEq, Int.reduceEq, if_true, if_false, eq_self, ne_eq, env_bT, T_3, T_5, T_9, P31_eq, Redir.pv_eq, P154_eq, Cmd.pv_eq, P32_eq, Word.pv_eq, GValue.pv_eq, P22_eq, Var.pv_eq, P52_eq, GEnv.pv_eq, eqT_3, f13.1, f13.2.1, f13.2.2, pf_39, f16, *, decide_true, decide_false, Decidable.not_not, not_false_eq_true, not_true_eq_false])
      all_goals (first | (simp only [BOOLS]; done) | (simp [*]; done) | ((try simp only [CLOS, beq_iff_eq, bne_iff_ne, ne_eq] at *) <;> omega) | (simp_all; done) | (simp_all <;> omega))
    refine AW.cond (b := (decide (i5 < (s1.length : Int)) && decide (n14 < 0))) rfl (fun hb17 => ?_) (fun hb17 => ?_)
    · replace h := bif_t hb17 h
      refine AW.exit ?_
      refine AW.reg hS [(0, .pv (.str s1)), (1, .pv (.str ifs2)), (5, .vec 0 (List.length l6)), (6, .pv (.int .i64 from4)), (7, .pv (.int .i64 (IntKind.wrap .i64 (i5 + 1))))] [.row 9 1 (List.map PV.str l6) true] ?_ ?_
      · simp -implicitDefEqProofs only [RUNS, qindex, Nat.reduceAdd, Nat.reduceLeDiff, Nat.reduceSub, reduceIte, Nat.reduceEqDiff, Nat.reduceLT, reduceCtorEq, Nat.reduceMul, Nat.reduceBEq, Int.reduceEq, if_true, if_false, eq_self, ne_eq, env_bT, T_3, P31_eq, Redir.pv_eq, P154_eq, Cmd.pv_eq, P32_eq, Word.pv_eq, GValue.pv_eq, P22_eq, Var.pv_eq, P52_eq, GEnv.pv_eq, eqT_3]
      exact ⟨(m9, (from4, IntKind.wrap .i64 (i5 + 1), l6)), h, (Weak.norm (m := 1) (Nat.le_of_ble_eq_true rfl) ⟨rfl, rfl, rfl, rfl, rfl, trivial⟩ rfl rfl rfl), Nat.lt_succ_self _⟩
    · replace h := bif_f hb17 h
      refine AW.skip ?_
      refine AW.seq ?_
      refine AW.seq ?_
      refine AW.reg hS [(0, .pv (.str s1)), (1, .pv (.str ifs2)), (5, .vec 0 (List.length l6)), (6, .pv (.int .i64 from4)), (7, .pv (.int .i64 i5)), (28, .pv (.bool (decide (from4 < i5))))] [.row 9 1 (List.map PV.str l6) true] ?_ ?_
      · simp -implicitDefEqProofs only [RUNS, qindex, Nat.reduceAdd, Nat.reduceLeDiff, Nat.reduceSub, reduceIte, Nat.reduceEqDiff, Nat.reduceLT, reduceCtorEq, Nat.reduceMul, Nat.reduceBEq, Int.reduceEq, if_true, if_false, eq_self, ne_eq, env_bT, T_3, P31_eq, Redir.pv_eq, P154_eq, Cmd.pv_eq, P32_eq, Word.pv_eq, GValue.pv_eq, P22_eq, Var.pv_eq, P52_eq, GEnv.pv_eq, eqT_3]
      refine AW.cond (b := decide (from4 < i5)) rfl (fun hb18 => ?_) (fun hb18 => ?_)
      · replace h := bif_t hb18 h
        replace h := Option.bind_eq_some_iff.1 h; obtain ⟨t19, q20, h⟩ := h
        have f21 := sslice_f q20
        have f21e := f21.2.2.2.2
        try simp only [Int.toNat_natCast, Int.toNat_zero, List.drop_zero] at f21e
        have f21l := f21.2.2.1
        try simp only [Int.toNat_natCast, Int.toNat_zero] at f21l
        replace h := Option.bind_eq_some_iff.1 h; obtain ⟨out22, q23, h⟩ := h
        have f24 := appO_f q23
        try simp only [List.length_cons, List.length_nil, Nat.zero_add, Nat.reduceAdd, Nat.reduceLeDiff, Nat.add_zero, Nat.reduceMul] at f24
        refine AW.reg hS [(0, .pv (.str s1)), (1, .pv (.str ifs2)), (5, .vec 0 (List.length out22)), (7, .pv (.int .i64 i5))] [.row 9 1 (List.map PV.str out22) true] ?_ ?_
        · simp -implicitDefEqProofs only [RUNS, qindex, Nat.reduceAdd, Nat.reduceLeDiff, Nat.reduceSub, reduceIte, Nat.reduceEqDiff, Nat.reduceLT, reduceCtorEq, Nat.reduceMul, Nat.reduceBEq, Int.reduceEq, if_true, if_false, eq_self, ne_eq, env_bT, T_9, T_22, P31_eq, Redir.pv_eq, P154_eq, Cmd.pv_eq, P32_eq, Word.pv_eq, GValue.pv_eq, P22_eq, Var.pv_eq, P52_eq, GEnv.pv_eq, f21.1, f21.2.1, f21l, f21.2.2.2.1, f21e, Int.toNat_natCast, Int.toNat_zero, ownT_22, f24.1, f24.2, str_all] <;> (try simp only [List.length_take, List.length_drop, List.length_map])
        clear f24
        refine AW.reg hS [(0, .pv (.str s1)), (1, .pv (.str ifs2)), (5, .vec 0 (List.length out22)), (6, .pv (.int .i64 (IntKind.wrap .i64 (i5 + 1)))), (7, .pv (.int .i64 i5))] [.row 9 1 (List.map PV.str out22) true] ?_ ?_
        · simp -implicitDefEqProofs only [RUNS, qindex, Nat.reduceAdd, Nat.reduceLeDiff, Nat.reduceSub, reduceIte, Nat.reduceEqDiff, Nat.reduceLT, reduceCtorEq, Nat.reduceMul, Nat.reduceBEq, Int.reduceEq, if_true, if_false, eq_self, ne_eq, env_bT, T_3, P31_eq, Redir.pv_eq, P154_eq, Cmd.pv_eq, P32_eq, Word.pv_eq, GValue.pv_eq, P22_eq, Var.pv_eq, P52_eq, GEnv.pv_eq, eqT_3]
        refine AW.reg hS [(0, .pv (.str s1)), (1, .pv (.str ifs2)), (5, .vec 0 (List.length out22)), (6, .pv (.int .i64 (IntKind.wrap .i64 (i5 + 1)))), (7, .pv (.int .i64 (IntKind.wrap .i64 (i5 + 1))))] [.row 9 1 (List.map PV.str out22) true] ?_ ?_
        · simp -implicitDefEqProofs only [RUNS, qindex, Nat.reduceAdd, Nat.reduceLeDiff, Nat.reduceSub, reduceIte, Nat.reduceEqDiff, Nat.reduceLT, reduceCtorEq, Nat.reduceMul, Nat.reduceBEq, Int.reduceEq, if_true, if_false, eq_self, ne_eq, env_bT, T_3, P31_eq, Redir.pv_eq, P154_eq, Cmd.pv_eq, P32_eq, Word.pv_eq, GValue.pv_eq, P22_eq, Var.pv_eq, P52_eq, GEnv.pv_eq, eqT_3]
        exact ⟨(m9, (IntKind.wrap .i64 (i5 + 1), IntKind.wrap .i64 (i5 + 1), out22)), h, (Weak.norm (m := 1) (Nat.le_of_ble_eq_true rfl) ⟨rfl, rfl, rfl, rfl, rfl, trivial⟩ rfl rfl rfl), Nat.lt_succ_self _⟩
      · replace h := bif_f hb18 h
        refine AW.skip ?_
        refine AW.reg hS [(0, .pv (.str s1)), (1, .pv (.str ifs2)), (5, .vec 0 (List.length l6)), (6, .pv (.int .i64 (IntKind.wrap .i64 (i5 + 1)))), (7, .pv (.int .i64 i5))] [.row 9 1 (List.map PV.str l6) true] ?_ ?_
        · simp -implicitDefEqProofs only [RUNS, qindex, Nat.reduceAdd, Nat.reduceLeDiff, Nat.reduceSub, reduceIte, Nat.reduceEqDiff, Nat.reduceLT, reduceCtorEq, Nat.reduceMul, Nat.reduceBEq, Int.reduceEq, if_true, if_false, eq_self, ne_eq, env_bT, T_3, P31_eq, Redir.pv_eq, P154_eq, Cmd.pv_eq, P32_eq, Word.pv_eq, GValue.pv_eq, P22_eq, Var.pv_eq, P52_eq, GEnv.pv_eq, eqT_3]
        refine AW.reg hS [(0, .pv (.str s1)), (1, .pv (.str ifs2)), (5, .vec 0 (List.length l6)), (6, .pv (.int .i64 (IntKind.wrap .i64 (i5 + 1)))), (7, .pv (.int .i64 (IntKind.wrap .i64 (i5 + 1))))] [.row 9 1 (List.map PV.str l6) true] ?_ ?_
        · simp -implicitDefEqProofs only [RUNS, qindex, Nat.reduceAdd, Nat.reduceLeDiff, Nat.reduceSub, reduceIte, Nat.reduceEqDiff, Nat.reduceLT, reduceCtorEq, Nat.reduceMul, Nat.reduceBEq, Int.reduceEq, if_true, if_false, eq_self, ne_eq, env_bT, T_3, P31_eq, Redir.pv_eq, P154_eq, Cmd.pv_eq, P32_eq, Word.pv_eq, GValue.pv_eq, P22_eq, Var.pv_eq, P52_eq, GEnv.pv_eq, eqT_3]
        exact ⟨(m9, (IntKind.wrap .i64 (i5 + 1), IntKind.wrap .i64 (i5 + 1), l6)), h, (Weak.norm (m := 1) (Nat.le_of_ble_eq_true rfl) ⟨rfl, rfl, rfl, rfl, rfl, trivial⟩ rfl rfl rfl), Nat.lt_succ_self _⟩
  · replace h := bif_f hb10 h
    refine AW.exit ?_
    refine AW.seq ?_
    refine AW.reg hS [(4, .vec 0 (List.length l6))] [.row 9 1 (List.map PV.str l6) true] ?_ ?_
    · simp -implicitDefEqProofs only [RUNS, qindex, Nat.reduceAdd, Nat.reduceLeDiff, Nat.reduceSub, reduceIte, Nat.reduceEqDiff, Nat.reduceLT, reduceCtorEq, Nat.reduceMul, Nat.reduceBEq, Int.reduceEq, if_true, if_false, eq_self, ne_eq, env_bT, P31_eq, Redir.pv_eq, P154_eq, Cmd.pv_eq, P32_eq, Word.pv_eq, GValue.pv_eq, P22_eq, Var.pv_eq, P52_eq, GEnv.pv_eq]
    refine AW.ret ?_
    cases h
    show finish _ _ _ _ _ = _
    first | rfl | (simp [finish, resOf, renArgs, toPV, selObjs, sl])

set_option maxHeartbeats 4000000 in
theorem g_F8 {O : Orc} (hS : Sound env O) (hpf : O.pf = pfn) (c_F9 : C_F9 O) (c_F20 : C_F20 O) (c_F17 : C_F17 O) (c_F11 : C_F11 O) (c_F18 : C_F18 O) (c_F13 : C_F13 O) (c_F19 : C_F19 O)  (r1 : Bool) (h : F8 = some r1) : Good env 8 [] [] [.pv (.bool r1)] [] := by
  have pf_9 : O.pf 9 = true := by rw [hpf]; rfl
  have pf_11 : O.pf 11 = true := by rw [hpf]; rfl
  have pf_13 : O.pf 13 = true := by rw [hpf]; rfl
  have pf_17 : O.pf 17 = true := by rw [hpf]; rfl
  have pf_18 : O.pf 18 = true := by rw [hpf]; rfl
  have pf_19 : O.pf 19 = true := by rw [hpf]; rfl
  have pf_20 : O.pf 20 = true := by rw [hpf]; rfl
  refine Good.start (fn := Tryd.f8) (N := 131) fn_8 rfl rfl (by simp) [] _ rfl rfl ?_
  rw [F8] at h
  refine AW.seq ?_
  refine AW.reg hS [] [] ?_ ?_
  · simp -implicitDefEqProofs only [RUNS, qindex, Nat.reduceAdd, Nat.reduceLeDiff, Nat.reduceSub, reduceIte, Nat.reduceEqDiff, Nat.reduceLT, reduceCtorEq, Nat.reduceMul, Nat.reduceBEq, Int.reduceEq, if_true, if_false, eq_self, ne_eq, env_bT, P31_eq, Redir.pv_eq, P154_eq, Cmd.pv_eq, P32_eq, Word.pv_eq, GValue.pv_eq, P22_eq, Var.pv_eq, P52_eq, GEnv.pv_eq]
  refine AW.seq ?_
  refine AW.reg hS [(1, .ref 0 0)] [.var [.pv (.int .i64 2), .pv (.str [120]), .pv (.str []), .pv (.slice (List.map Word.pv [])), .pv (.slice (List.map Cmd.pv []))]] ?_ ?_
  · simp -implicitDefEqProofs only [RUNS, qindex, Nat.reduceAdd, Nat.reduceLeDiff, Nat.reduceSub, reduceIte, Nat.reduceEqDiff, Nat.reduceLT, reduceCtorEq, Nat.reduceMul, Nat.reduceBEq, Int.reduceEq, if_true, if_false, eq_self, ne_eq, env_bT, T_34, P31_eq, Redir.pv_eq, P154_eq, Cmd.pv_eq, P32_eq, Word.pv_eq, GValue.pv_eq, P22_eq, Var.pv_eq, P52_eq, GEnv.pv_eq, ownT_34]
  refine AW.seq ?_
  replace h := Option.bind_eq_some_iff.1 h; obtain ⟨⟨r2, r3⟩, q4, h⟩ := h
  dsimp only at h
  have f5 := c_F9 [[97], [98]] [[49], [50]] r2 r3 q4
  try dsimp only at f5
  try simp only [List.map_cons, List.map_nil, P31_eq, Redir.pv_eq, P154_eq, Cmd.pv_eq, P32_eq, Word.pv_eq, GValue.pv_eq, P22_eq, Var.pv_eq, P52_eq, GEnv.pv_eq] at f5
  refine AW.reg hS [(1, .ref 0 0), (2, .pv (.slice (List.map PV.str r2))), (3, .pv (.int .i64 r3))] [.var [.pv (.int .i64 2), .pv (.str [120]), .pv (.str []), .pv (.slice (List.map Word.pv [])), .pv (.slice (List.map Cmd.pv []))]] ?_ ?_
  · simp -implicitDefEqProofs only [RUNS, qindex, Nat.reduceAdd, Nat.reduceLeDiff, Nat.reduceSub, reduceIte, Nat.reduceEqDiff, Nat.reduceLT, reduceCtorEq, Nat.reduceMul, Nat.reduceBEq, Int.reduceEq, if_true, if_false, eq_self, ne_eq, env_bT, T_9, T_22, P31_eq, Redir.pv_eq, P154_eq, Cmd.pv_eq, P32_eq, Word.pv_eq, GValue.pv_eq, P22_eq, Var.pv_eq, P52_eq, GEnv.pv_eq, ownT_22, pf_9, f5]
  refine AW.seq ?_
  replace h := Option.bind_eq_some_iff.1 h; obtain ⟨⟨r6, r7⟩, q8, h⟩ := h
  dsimp only at h
  have f9 := c_F9 [[97]] [] r6 r7 q8
  try dsimp only at f9
  try simp only [List.map_cons, List.map_nil, P31_eq, Redir.pv_eq, P154_eq, Cmd.pv_eq, P32_eq, Word.pv_eq, GValue.pv_eq, P22_eq, Var.pv_eq, P52_eq, GEnv.pv_eq] at f9
  refine AW.reg hS [(1, .ref 0 0), (2, .pv (.slice (List.map PV.str r2))), (3, .pv (.int .i64 r3)), (5, .pv (.int .i64 r7))] [.var [.pv (.int .i64 2), .pv (.str [120]), .pv (.str []), .pv (.slice (List.map Word.pv [])), .pv (.slice (List.map Cmd.pv []))]] ?_ ?_
  · simp -implicitDefEqProofs only [RUNS, qindex, Nat.reduceAdd, Nat.reduceLeDiff, Nat.reduceSub, reduceIte, Nat.reduceEqDiff, Nat.reduceLT, reduceCtorEq, Nat.reduceMul, Nat.reduceBEq, Int.reduceEq, if_true, if_false, eq_self, ne_eq, env_bT, T_9, T_22, P31_eq, Redir.pv_eq, P154_eq, Cmd.pv_eq, P32_eq, Word.pv_eq, GValue.pv_eq, P22_eq, Var.pv_eq, P52_eq, GEnv.pv_eq, ownT_22, pf_9, f9]
  refine AW.seq ?_
  replace h := Option.bind_eq_some_iff.1 h; obtain ⟨r10, q11, h⟩ := h
  have f12 := c_F20 r10 q11
  try dsimp only at f12
  replace h := Option.bind_eq_some_iff.1 h; obtain ⟨⟨r13, r14, r15⟩, q16, h⟩ := h
  dsimp only at h
  have f17 := c_F17 r10 1 (Word.mk 4 [] [] [Word.mk 1 [97] [48] [] [], Word.mk 2 [120] [] [] []] []) r13 r14 r15 q16
  try dsimp only at f17
  try simp only [List.map_cons, List.map_nil, P31_eq, Redir.pv_eq, P154_eq, Cmd.pv_eq, P32_eq, Word.pv_eq, GValue.pv_eq, P22_eq, Var.pv_eq, P52_eq, GEnv.pv_eq] at f17
  refine AW.dreg mixed hS (hpf ▸ (by kernel_rfl : orderOK pfn _ = true)) [(2, .pv (.slice (List.map PV.str r2))), (3, .pv (.int .i64 r3)), (5, .pv (.int .i64 r7)), (6, .pv (.slice (List.map PV.str r13))), (7, .pv (.slice (List.map PV.str r14))), (8, .pv (.int .i64 r15))] [.var [.pv (.int .i64 2), .pv (.str [120]), .pv (.str []), .pv (.slice (List.map Word.pv [])), .pv (.slice (List.map Cmd.pv []))]] ?_ ?_
  · simp -implicitDefEqProofs only [RUNS, qindex, Nat.reduceAdd, Nat.reduceLeDiff, Nat.reduceSub, reduceIte, Nat.reduceEqDiff, Nat.reduceLT, reduceCtorEq, Nat.reduceMul, Nat.reduceBEq, Int.reduceEq, if_true, if_false, eq_self, ne_eq, env_bT, T_3, T_30, T_31, T_34, T_54, P31_eq, Redir.pv_eq, P154_eq, Cmd.pv_eq, P32_eq, Word.pv_eq, GValue.pv_eq, P22_eq, Var.pv_eq, P52_eq, GEnv.pv_eq, pf_20, f12, ownT_34, ownT_31, pf_17, f17]
  refine AW.seq ?_
  replace h := Option.bind_eq_some_iff.1 h; obtain ⟨⟨r18, r19, r20⟩, q21, h⟩ := h
  dsimp only at h
  have f22 := c_F17 r10 1 (Word.mk 3 [42] [] [] []) r18 r19 r20 q21
  try dsimp only at f22
  try simp only [List.map_cons, List.map_nil, P31_eq, Redir.pv_eq, P154_eq, Cmd.pv_eq, P32_eq, Word.pv_eq, GValue.pv_eq, P22_eq, Var.pv_eq, P52_eq, GEnv.pv_eq] at f22
  refine AW.reg hS [(2, .pv (.slice (List.map PV.str r2))), (3, .pv (.int .i64 r3)), (5, .pv (.int .i64 r7)), (6, .pv (.slice (List.map PV.str r13))), (7, .pv (.slice (List.map PV.str r14))), (8, .pv (.int .i64 r15)), (9, .pv (.slice (List.map PV.str r18))), (11, .pv (.int .i64 r20))] [.var [.pv (.int .i64 2), .pv (.str [120]), .pv (.str []), .pv (.slice (List.map Word.pv [])), .pv (.slice (List.map Cmd.pv []))]] ?_ ?_
  · simp -implicitDefEqProofs only [RUNS, qindex, Nat.reduceAdd, Nat.reduceLeDiff, Nat.reduceSub, reduceIte, Nat.reduceEqDiff, Nat.reduceLT, reduceCtorEq, Nat.reduceMul, Nat.reduceBEq, Int.reduceEq, if_true, if_false, eq_self, ne_eq, env_bT, T_3, T_30, T_34, T_54, P31_eq, Redir.pv_eq, P154_eq, Cmd.pv_eq, P32_eq, Word.pv_eq, GValue.pv_eq, P22_eq, Var.pv_eq, P52_eq, GEnv.pv_eq, pf_20, f12, ownT_34, pf_17, f22]
  refine AW.seq ?_
  replace h := Option.bind_eq_some_iff.1 h; obtain ⟨⟨r23, r24, r25⟩, q26, h⟩ := h
  dsimp only at h
  have f27 := c_F17 r10 1 (Word.mk 2 [50] [] [] []) r23 r24 r25 q26
  try dsimp only at f27
  try simp only [List.map_cons, List.map_nil, P31_eq, Redir.pv_eq, P154_eq, Cmd.pv_eq, P32_eq, Word.pv_eq, GValue.pv_eq, P22_eq, Var.pv_eq, P52_eq, GEnv.pv_eq] at f27
  refine AW.reg hS [(2, .pv (.slice (List.map PV.str r2))), (3, .pv (.int .i64 r3)), (5, .pv (.int .i64 r7)), (6, .pv (.slice (List.map PV.str r13))), (7, .pv (.slice (List.map PV.str r14))), (8, .pv (.int .i64 r15)), (9, .pv (.slice (List.map PV.str r18))), (11, .pv (.int .i64 r20)), (12, .pv (.slice (List.map PV.str r23))), (14, .pv (.int .i64 r25))] [.var [.pv (.int .i64 2), .pv (.str [120]), .pv (.str []), .pv (.slice (List.map Word.pv [])), .pv (.slice (List.map Cmd.pv []))]] ?_ ?_
  · simp -implicitDefEqProofs only [RUNS, qindex, Nat.reduceAdd, Nat.reduceLeDiff, Nat.reduceSub, reduceIte, Nat.reduceEqDiff, Nat.reduceLT, reduceCtorEq, Nat.reduceMul, Nat.reduceBEq, Int.reduceEq, if_true, if_false, eq_self, ne_eq, env_bT, T_3, T_30, T_34, T_54, P31_eq, Redir.pv_eq, P154_eq, Cmd.pv_eq, P32_eq, Word.pv_eq, GValue.pv_eq, P22_eq, Var.pv_eq, P52_eq, GEnv.pv_eq, pf_20, f12, ownT_34, pf_17, f27]
  refine AW.seq ?_
  replace h := Option.bind_eq_some_iff.1 h; obtain ⟨⟨r28, r29⟩, q30, h⟩ := h
  dsimp only at h
  have f31 := c_F11 [[97], [98], [99]] [[51], [49], [55]] r28 r29 q30
  try dsimp only at f31
  try simp only [List.map_cons, List.map_nil, P31_eq, Redir.pv_eq, P154_eq, Cmd.pv_eq, P32_eq, Word.pv_eq, GValue.pv_eq, P22_eq, Var.pv_eq, P52_eq, GEnv.pv_eq] at f31
  refine AW.reg hS [(2, .pv (.slice (List.map PV.str r2))), (3, .pv (.int .i64 r3)), (5, .pv (.int .i64 r7)), (6, .pv (.slice (List.map PV.str r13))), (7, .pv (.slice (List.map PV.str r14))), (8, .pv (.int .i64 r15)), (9, .pv (.slice (List.map PV.str r18))), (11, .pv (.int .i64 r20)), (12, .pv (.slice (List.map PV.str r23))), (14, .pv (.int .i64 r25)), (15, .pv (.slice (List.map PV.str r28))), (16, .pv (.int .i64 r29))] [.var [.pv (.int .i64 2), .pv (.str [120]), .pv (.str []), .pv (.slice (List.map Word.pv [])), .pv (.slice (List.map Cmd.pv []))]] ?_ ?_
  · simp -implicitDefEqProofs only [RUNS, qindex, Nat.reduceAdd, Nat.reduceLeDiff, Nat.reduceSub, reduceIte, Nat.reduceEqDiff, Nat.reduceLT, reduceCtorEq, Nat.reduceMul, Nat.reduceBEq, Int.reduceEq, if_true, if_false, eq_self, ne_eq, env_bT, T_9, T_22, P31_eq, Redir.pv_eq, P154_eq, Cmd.pv_eq, P32_eq, Word.pv_eq, GValue.pv_eq, P22_eq, Var.pv_eq, P52_eq, GEnv.pv_eq, ownT_22, pf_11, f31]
  refine AW.seq ?_
  replace h := Option.bind_eq_some_iff.1 h; obtain ⟨⟨r32, r33⟩, q34, h⟩ := h
  dsimp only at h
  have f35 := c_F18 r10 1 [97, 36, 120, 94, 98, 36, 36, 32, 36] r32 r33 q34
  try dsimp only at f35
  try simp only [List.map_cons, List.map_nil, P31_eq, Redir.pv_eq, P154_eq, Cmd.pv_eq, P32_eq, Word.pv_eq, GValue.pv_eq, P22_eq, Var.pv_eq, P52_eq, GEnv.pv_eq] at f35
  refine AW.reg hS [(2, .pv (.slice (List.map PV.str r2))), (3, .pv (.int .i64 r3)), (5, .pv (.int .i64 r7)), (6, .pv (.slice (List.map PV.str r13))), (7, .pv (.slice (List.map PV.str r14))), (8, .pv (.int .i64 r15)), (9, .pv (.slice (List.map PV.str r18))), (11, .pv (.int .i64 r20)), (12, .pv (.slice (List.map PV.str r23))), (14, .pv (.int .i64 r25)), (15, .pv (.slice (List.map PV.str r28))), (16, .pv (.int .i64 r29)), (17, .pv (.str r32)), (18, .pv (.int .i64 r33))] [.var [.pv (.int .i64 2), .pv (.str [120]), .pv (.str []), .pv (.slice (List.map Word.pv [])), .pv (.slice (List.map Cmd.pv []))]] ?_ ?_
  · simp -implicitDefEqProofs only [RUNS, qindex, Nat.reduceAdd, Nat.reduceLeDiff, Nat.reduceSub, reduceIte, Nat.reduceEqDiff, Nat.reduceLT, reduceCtorEq, Nat.reduceMul, Nat.reduceBEq, Int.reduceEq, if_true, if_false, eq_self, ne_eq, env_bT, T_3, T_9, T_30, T_54, P31_eq, Redir.pv_eq, P154_eq, Cmd.pv_eq, P32_eq, Word.pv_eq, GValue.pv_eq, P22_eq, Var.pv_eq, P52_eq, GEnv.pv_eq, pf_20, f12, pf_18, f35]
  refine AW.seq ?_
  replace h := Option.bind_eq_some_iff.1 h; obtain ⟨r36, q37, h⟩ := h
  have f38 := c_F13 r2 [[97, 49], [98, 50]] r36 q37
  try dsimp only at f38
  try simp only [List.map_cons, List.map_nil, P31_eq, Redir.pv_eq, P154_eq, Cmd.pv_eq, P32_eq, Word.pv_eq, GValue.pv_eq, P22_eq, Var.pv_eq, P52_eq, GEnv.pv_eq] at f38
  replace h := Option.bind_eq_some_iff.1 h; obtain ⟨r39, q40, h⟩ := h
  have f41 := fun hg => c_F13 r13 [[97, 49], [97, 50]] r39 (guardO_t q40 hg)
  try dsimp only at f41
  try simp only [List.map_cons, List.map_nil, P31_eq, Redir.pv_eq, P154_eq, Cmd.pv_eq, P32_eq, Word.pv_eq, GValue.pv_eq, P22_eq, Var.pv_eq, P52_eq, GEnv.pv_eq] at f41
  replace h := Option.bind_eq_some_iff.1 h; obtain ⟨r42, q43, h⟩ := h
  have f44 := fun hg => c_F13 r14 [[48, 49], [48, 49]] r42 (guardO_t q43 hg)
  try dsimp only at f44
  try simp only [List.map_cons, List.map_nil, P31_eq, Redir.pv_eq, P154_eq, Cmd.pv_eq, P32_eq, Word.pv_eq, GValue.pv_eq, P22_eq, Var.pv_eq, P52_eq, GEnv.pv_eq] at f44
  replace h := Option.bind_eq_some_iff.1 h; obtain ⟨r45, q46, h⟩ := h
  have f47 := fun hg => c_F13 r18 [[51]] r45 (guardO_t q46 hg)
  try dsimp only at f47
  try simp only [List.map_cons, List.map_nil, P31_eq, Redir.pv_eq, P154_eq, Cmd.pv_eq, P32_eq, Word.pv_eq, GValue.pv_eq, P22_eq, Var.pv_eq, P52_eq, GEnv.pv_eq] at f47
  replace h := Option.bind_eq_some_iff.1 h; obtain ⟨r48, q49, h⟩ := h
  have f50 := fun hg => c_F13 r23 [[98]] r48 (guardO_t q49 hg)
  try dsimp only at f50
  try simp only [List.map_cons, List.map_nil, P31_eq, Redir.pv_eq, P154_eq, Cmd.pv_eq, P32_eq, Word.pv_eq, GValue.pv_eq, P22_eq, Var.pv_eq, P52_eq, GEnv.pv_eq] at f50
  replace h := Option.bind_eq_some_iff.1 h; obtain ⟨r51, q52, h⟩ := h
  have f53 := fun hg => c_F13 r28 [[99], [97]] r51 (guardO_t q52 hg)
  try dsimp only at f53
  try simp only [List.map_cons, List.map_nil, P31_eq, Redir.pv_eq, P154_eq, Cmd.pv_eq, P32_eq, Word.pv_eq, GValue.pv_eq, P22_eq, Var.pv_eq, P52_eq, GEnv.pv_eq] at f53
  replace h := Option.bind_eq_some_iff.1 h; obtain ⟨r54, q55, h⟩ := h
  have f56 := fun hg => c_F19 [32, 97, 32, 32, 98, 99] [32] r54 (guardO_t q55 hg)
  try dsimp only at f56
  try simp only [List.map_cons, List.map_nil, P31_eq, Redir.pv_eq, P154_eq, Cmd.pv_eq, P32_eq, Word.pv_eq, GValue.pv_eq, P22_eq, Var.pv_eq, P52_eq, GEnv.pv_eq] at f56
  replace h := Option.bind_eq_some_iff.1 h; obtain ⟨r57, q58, h⟩ := h
  have f59 := fun hg => c_F13 r54 [[97], [98, 99]] r57 (guardO_t q58 hg)
  try dsimp only at f59
  try simp only [List.map_cons, List.map_nil, P31_eq, Redir.pv_eq, P154_eq, Cmd.pv_eq, P32_eq, Word.pv_eq, GValue.pv_eq, P22_eq, Var.pv_eq, P52_eq, GEnv.pv_eq] at f59
  refine AW.reg hS [(0, .pv (.bool ((((((((((((((r36 && decide (r3 = 0)) && decide (r7 = 1)) && r39) && r42) && decide (r15 = 0)) && r45) && decide (r20 = 0)) && r48) && decide (r25 = 0)) && r51) && decide (r29 = 0)) && decide (r32 = [97, 49, 32, 50, 98, 36, 32, 36])) && decide (r33 = 0)) && r57)))] [.var [.pv (.int .i64 2), .pv (.str [120]), .pv (.str []), .pv (.slice (List.map Word.pv [])), .pv (.slice (List.map Cmd.pv []))]] ?_ ?_
  · clear h
    (simp -implicitDefEqProofs only [RUNS, qindex, Nat.reduceAdd, Nat.reduceLeDiff, Nat.reduceSub, reduceIte, Nat.reduceEqDiff, Nat.reduceLT, reduceCtorEq, Nat.reduceMul, Nat.reduceBEq, Int.reduceEq, if_true, if_false, eq_self, ne_eq, env_bT, T_9, T_22, T_25, P31_eq, Redir.pv_eq, P154_eq, Cmd.pv_eq, P32_eq, Word.pv_eq, GValue.pv_eq, P22_eq, Var.pv_eq, P52_eq, GEnv.pv_eq, ownT_22, pf_13, f38, eqT_25, f41, f44, f47, f50, f53, eqT_9, pf_19, f56, f59]); repeat' (split <;> rename_i hb <;> (try simp only [HBS, ge_iff_le, gt_iff_lt] at hb) <;> simp -implicitDefEqProofs only [RUNS, qindex, Nat.reduceAdd, Nat.reduceLeDiff, Nat.reduceSub, reduceIte, Nat.reduceEqDiff, Nat.reduceLT, reduceCtorEq, Nat.reduceMul, Nat.reduceBEq, Int.reduceEq, if_true, if_false, eq_self, ne_eq, env_bT, T_9, T_22, T_25, P31_eq, Redir.pv_eq, P154_eq, Cmd.pv_eq, P32_eq, Word.pv_eq, GValue.pv_eq, P22_eq, Var.pv_eq, P52_eq, GEnv.pv_eq, ownT_22, pf_13, f38, eqT_25, f41, f44, f47, f50, f53, eqT_9, pf_19, f56, f59, *, decide_true, decide_false, Decidable.not_not, not_false_eq_true, not_true_eq_false])
    all_goals (first | (simp only [BOOLS]; done) | (simp [*]; done) | ((try simp only [CLOS, beq_iff_eq, bne_iff_ne, ne_eq] at *) <;> omega) | (simp_all; done) | (simp_all <;> omega))
  refine AW.ret ?_
  cases h
  show finish _ _ _ _ _ = _
  first | rfl | (simp [finish, resOf, renArgs, toPV, selObjs, sl])

set_option maxHeartbeats 4000000 in
theorem g_F10 {O : Orc} (hS : Sound env O) (hpf : O.pf = pfn) (a1 : List Str) (b2 : List Str) (r3 : List Str) (r4 : Int) (h : F10 a1 b2 = some (r3, r4)) : Good env 10 [.pv (.slice (List.map PV.str a1)), .pv (.slice (List.map PV.str b2))] [] [.pv (.slice (List.map PV.str r3)), .pv (.int .i64 r4)] [] := by
  refine Good.start (fn := Tryd.f10) (N := 72) fn_10 rfl rfl (by simp) [] _ rfl rfl ?_
  rw [F10] at h
  refine AW.seq ?_
  refine AW.reg hS [(0, .pv (.slice (List.map PV.str a1))), (1, .pv (.slice (List.map PV.str b2)))] [] ?_ ?_
  · simp -implicitDefEqProofs only [RUNS, qindex, Nat.reduceAdd, Nat.reduceLeDiff, Nat.reduceSub, reduceIte, Nat.reduceEqDiff, Nat.reduceLT, reduceCtorEq, Nat.reduceMul, Nat.reduceBEq, Int.reduceEq, if_true, if_false, eq_self, ne_eq, env_bT, P31_eq, Redir.pv_eq, P154_eq, Cmd.pv_eq, P32_eq, Word.pv_eq, GValue.pv_eq, P22_eq, Var.pv_eq, P52_eq, GEnv.pv_eq]
  refine AW.seq ?_
  refine AW.reg hS [(0, .pv (.slice (List.map PV.str a1))), (1, .pv (.slice (List.map PV.str b2))), (6, .pv (.int .i64 (a1.length : Int)))] [] ?_ ?_
  · simp -implicitDefEqProofs only [RUNS, qindex, Nat.reduceAdd, Nat.reduceLeDiff, Nat.reduceSub, reduceIte, Nat.reduceEqDiff, Nat.reduceLT, reduceCtorEq, Nat.reduceMul, Nat.reduceBEq, Int.reduceEq, if_true, if_false, eq_self, ne_eq, env_bT, T_9, T_22, P31_eq, Redir.pv_eq, P154_eq, Cmd.pv_eq, P32_eq, Word.pv_eq, GValue.pv_eq, P22_eq, Var.pv_eq, P52_eq, GEnv.pv_eq]
  refine AW.seqM ⟨sl [(0, .pv (.slice (List.map PV.str a1))), (1, .pv (.slice (List.map PV.str b2))), (6, .pv (.int .i64 (bif decide ((a1.length : Int) = 1) then (b2.length : Int) else (a1.length : Int))))], 72, []⟩ ?_ ?_
  · refine AW.seq ?_
    refine AW.reg hS [(0, .pv (.slice (List.map PV.str a1))), (1, .pv (.slice (List.map PV.str b2))), (6, .pv (.int .i64 (a1.length : Int))), (14, .pv (.bool (decide ((a1.length : Int) = 1))))] [] ?_ ?_
    · simp -implicitDefEqProofs only [RUNS, qindex, Nat.reduceAdd, Nat.reduceLeDiff, Nat.reduceSub, reduceIte, Nat.reduceEqDiff, Nat.reduceLT, reduceCtorEq, Nat.reduceMul, Nat.reduceBEq, Int.reduceEq, if_true, if_false, eq_self, ne_eq, env_bT, T_3, T_9, T_22, P31_eq, Redir.pv_eq, P154_eq, Cmd.pv_eq, P32_eq, Word.pv_eq, GValue.pv_eq, P22_eq, Var.pv_eq, P52_eq, GEnv.pv_eq, eqT_3]
    refine AW.cond (b := decide ((a1.length : Int) = 1)) rfl (fun hb5 => ?_) (fun hb5 => ?_)
    · refine AW.reg hS [(0, .pv (.slice (List.map PV.str a1))), (1, .pv (.slice (List.map PV.str b2))), (6, .pv (.int .i64 (b2.length : Int)))] [] ?_ ?_
      · simp -implicitDefEqProofs only [RUNS, qindex, Nat.reduceAdd, Nat.reduceLeDiff, Nat.reduceSub, reduceIte, Nat.reduceEqDiff, Nat.reduceLT, reduceCtorEq, Nat.reduceMul, Nat.reduceBEq, Int.reduceEq, if_true, if_false, eq_self, ne_eq, env_bT, T_9, T_22, P31_eq, Redir.pv_eq, P154_eq, Cmd.pv_eq, P32_eq, Word.pv_eq, GValue.pv_eq, P22_eq, Var.pv_eq, P52_eq, GEnv.pv_eq]
      exact Weak.of_eq (Weak.slots (L := [(0, .pv (.slice (List.map PV.str a1))), (1, .pv (.slice (List.map PV.str b2))), (6, .pv (.int .i64 (b2.length : Int)))]) ⟨rfl, rfl, rfl, trivial⟩) (by simp only [hb5, cond_true, cond_false, Bool.true_or, Bool.false_or, Bool.true_and, Bool.false_and, Bool.or_true, Bool.or_false, Bool.and_true, Bool.and_false, Bool.not_true, Bool.not_false])
    · refine AW.skip ?_
      exact Weak.of_eq (Weak.slots (L := [(0, .pv (.slice (List.map PV.str a1))), (1, .pv (.slice (List.map PV.str b2))), (6, .pv (.int .i64 (a1.length : Int)))]) ⟨rfl, rfl, rfl, trivial⟩) (by simp only [hb5, cond_true, cond_false, Bool.true_or, Bool.false_or, Bool.true_and, Bool.false_and, Bool.or_true, Bool.or_false, Bool.and_true, Bool.and_false, Bool.not_true, Bool.not_false])
  refine AW.seq ?_
  refine AW.seq ?_
  refine AW.reg hS [(0, .pv (.slice (List.map PV.str a1))), (1, .pv (.slice (List.map PV.str b2))), (6, .pv (.int .i64 (bif decide ((a1.length : Int) = 1) then (b2.length : Int) else (a1.length : Int)))), (41, .pv (.bool (!decide ((a1.length : Int) = (b2.length : Int)) && (((!decide ((a1.length : Int) = 1) && !decide ((b2.length : Int) = 1)) || decide ((a1.length : Int) = 0)) || decide ((b2.length : Int) = 0)))))] [] ?_ ?_
  · clear h
    (simp -implicitDefEqProofs only [RUNS, qindex, Nat.reduceAdd, Nat.reduceLeDiff, Nat.reduceSub, reduceIte, Nat.reduceEqDiff, Nat.reduceLT, reduceCtorEq, Nat.reduceMul, Nat.reduceBEq, Int.reduceEq, if_true, if_false, eq_self, ne_eq, env_bT, T_3, T_9, T_22, P31_eq, Redir.pv_eq, P154_eq, Cmd.pv_eq, P32_eq, Word.pv_eq, GValue.pv_eq, P22_eq, Var.pv_eq, P52_eq, GEnv.pv_eq, eqT_3]); repeat' (split <;> rename_i hb <;> (try simp only [HBS, ge_iff_le, gt_iff_lt] at hb) <;> simp -implicitDefEqProofs only [RUNS, qindex, Nat.reduceAdd, Nat.reduceLeDiff, Nat.reduceSub, reduceIte, Nat.reduceEqDiff, Nat.reduceLT, reduceCtorEq, Nat.reduceMul, Nat.reduceBEq, Int.reduceEq, if_true, if_false, eq_self, ne_eq, env_bT, T_3, T_9, T_22, P31_eq, Redir.pv_eq, P154_eq, Cmd.pv_eq, P32_eq, Word.pv_eq, GValue.pv_eq, P22_eq, Var.pv_eq, P52_eq, GEnv.pv_eq, eqT_3, *, decide_true, decide_false, Decidable.not_not, not_false_eq_true, not_true_eq_false])
    all_goals (first | (simp only [BOOLS]; done) | (simp [*]; done) | ((try simp only [CLOS, beq_iff_eq, bne_iff_ne, ne_eq] at *) <;> omega) | (simp_all; done) | (simp_all <;> omega))
  refine AW.cond (b := (!decide ((a1.length : Int) = (b2.length : Int)) && (((!decide ((a1.length : Int) = 1) && !decide ((b2.length : Int) = 1)) || decide ((a1.length : Int) = 0)) || decide ((b2.length : Int) = 0)))) rfl (fun hb6 => ?_) (fun hb6 => ?_)
  · replace h := bif_t hb6 h
    refine AW.seq ?_
    refine AW.reg hS [(4, .nils), (5, .pv (.int .i64 1))] [] ?_ ?_
    · simp -implicitDefEqProofs only [RUNS, qindex, Nat.reduceAdd, Nat.reduceLeDiff, Nat.reduceSub, reduceIte, Nat.reduceEqDiff, Nat.reduceLT, reduceCtorEq, Nat.reduceMul, Nat.reduceBEq, Int.reduceEq, if_true, if_false, eq_self, ne_eq, env_bT, P31_eq, Redir.pv_eq, P154_eq, Cmd.pv_eq, P32_eq, Word.pv_eq, GValue.pv_eq, P22_eq, Var.pv_eq, P52_eq, GEnv.pv_eq]
    refine AW.ret ?_
    cases h
    show finish _ _ _ _ _ = _
    first | rfl | (simp [finish, resOf, renArgs, toPV, selObjs, sl])
  · replace h := bif_f hb6 h
    refine AW.skip ?_
    refine AW.seq ?_
    refine AW.reg hS [(0, .pv (.slice (List.map PV.str a1))), (1, .pv (.slice (List.map PV.str b2))), (6, .pv (.int .i64 (bif decide ((a1.length : Int) = 1) then (b2.length : Int) else (a1.length : Int)))), (7, .nils)] [] ?_ ?_
    · simp -implicitDefEqProofs only [RUNS, qindex, Nat.reduceAdd, Nat.reduceLeDiff, Nat.reduceSub, reduceIte, Nat.reduceEqDiff, Nat.reduceLT, reduceCtorEq, Nat.reduceMul, Nat.reduceBEq, Int.reduceEq, if_true, if_false, eq_self, ne_eq, env_bT, P31_eq, Redir.pv_eq, P154_eq, Cmd.pv_eq, P32_eq, Word.pv_eq, GValue.pv_eq, P22_eq, Var.pv_eq, P52_eq, GEnv.pv_eq]
    refine AW.weak (Weak.own 7 9 1 (by decide) rfl) ?_
    refine AW.weak (Weak.slots (L := [(0, .pv (.slice (List.map PV.str a1))), (1, .pv (.slice (List.map PV.str b2))), (6, .pv (.int .i64 (bif decide ((a1.length : Int) = 1) then (b2.length : Int) else (a1.length : Int)))), (7, .vec 0 (List.length ([] : List Str)))]) ⟨rfl, rfl, rfl, rfl, trivial⟩) ?_
    refine AW.seq ?_
    refine AW.seq ?_
    refine AW.reg hS [(0, .pv (.slice (List.map PV.str a1))), (1, .pv (.slice (List.map PV.str b2))), (6, .pv (.int .i64 (bif decide ((a1.length : Int) = 1) then (b2.length : Int) else (a1.length : Int)))), (7, .vec 0 (List.length ([] : List Str))), (8, .pv (.int .i64 0))] [.row 9 1 (List.map PV.str ([] : List Str)) true] ?_ ?_
    · simp -implicitDefEqProofs only [RUNS, qindex, Nat.reduceAdd, Nat.reduceLeDiff, Nat.reduceSub, reduceIte, Nat.reduceEqDiff, Nat.reduceLT, reduceCtorEq, Nat.reduceMul, Nat.reduceBEq, Int.reduceEq, if_true, if_false, eq_self, ne_eq, env_bT, P31_eq, Redir.pv_eq, P154_eq, Cmd.pv_eq, P32_eq, Word.pv_eq, GValue.pv_eq, P22_eq, Var.pv_eq, P52_eq, GEnv.pv_eq]
    refine AW.block ?_
    refine AW.weak (Weak.slots (L := [(0, .pv (.slice (List.map PV.str a1))), (1, .pv (.slice (List.map PV.str b2))), (6, .pv (.int .i64 (bif decide ((a1.length : Int) = 1) then (b2.length : Int) else (a1.length : Int)))), (7, .vec 0 (List.length ([] : List Str))), (8, .pv (.int .i64 0))]) ⟨rfl, rfl, rfl, rfl, rfl, trivial⟩) ?_
    refine AW.loopI (α := Nat × Int × (List Str)) (fun (_, i7, l8) => ⟨sl [(0, .pv (.slice (List.map PV.str a1))), (1, .pv (.slice (List.map PV.str b2))), (6, .pv (.int .i64 (bif decide ((a1.length : Int) = 1) then (b2.length : Int) else (a1.length : Int)))), (7, .vec 0 (List.length l8)), (8, .pv (.int .i64 i7))], 72, [.row 9 1 (List.map PV.str l8) true]⟩) (fun x => iter (F10_b1 a1 b2) x.1 x.2 = some (r3, r4)) (fun x => x.1) (BIG, (0, ([] : List Str))) h ?_
    clear h
    intro ⟨n26, i7, l8⟩ h
    replace h := iter_some h; obtain ⟨m11, rfl, h⟩ := h
    rw [F10_b1] at h
    try dsimp only at h
    show AW _ _ _ _ ⟨sl [(0, .pv (.slice (List.map PV.str a1))), (1, .pv (.slice (List.map PV.str b2))), (6, .pv (.int .i64 (bif decide ((a1.length : Int) = 1) then (b2.length : Int) else (a1.length : Int)))), (7, .vec 0 (List.length l8)), (8, .pv (.int .i64 i7))], 72, [.row 9 1 (List.map PV.str l8) true]⟩
    refine AW.seq ?_
    refine AW.seq ?_
    refine AW.reg hS [(0, .pv (.slice (List.map PV.str a1))), (1, .pv (.slice (List.map PV.str b2))), (6, .pv (.int .i64 (bif decide ((a1.length : Int) = 1) then (b2.length : Int) else (a1.length : Int)))), (7, .vec 0 (List.length l8)), (8, .pv (.int .i64 i7)), (44, .pv (.bool (decide (i7 < (bif decide ((a1.length : Int) = 1) then (b2.length : Int) else (a1.length : Int))))))] [.row 9 1 (List.map PV.str l8) true] ?_ ?_
    · simp -implicitDefEqProofs only [RUNS, qindex, Nat.reduceAdd, Nat.reduceLeDiff, Nat.reduceSub, reduceIte, Nat.reduceEqDiff, Nat.reduceLT, reduceCtorEq, Nat.reduceMul, Nat.reduceBEq, Int.reduceEq, if_true, if_false, eq_self, ne_eq, env_bT, T_3, P31_eq, Redir.pv_eq, P154_eq, Cmd.pv_eq, P32_eq, Word.pv_eq, GValue.pv_eq, P22_eq, Var.pv_eq, P52_eq, GEnv.pv_eq, eqT_3]
    refine AW.cond (b := decide (i7 < (bif decide ((a1.length : Int) = 1) then (b2.length : Int) else (a1.length : Int)))) rfl (fun hb12 => ?_) (fun hb12 => ?_)
    · replace h := bif_t hb12 h
      refine AW.skip ?_
      refine AW.seq ?_
      refine AW.block ?_
      refine AW.seq ?_
      replace h := Option.bind_eq_some_iff.1 h; obtain ⟨w13, q14, h⟩ := h
      have f15 := lidx_f q14
      replace h := Option.bind_eq_some_iff.1 h; obtain ⟨w16, q17, h⟩ := h
      have f18 := lidx_f q17
      replace h := Option.bind_eq_some_iff.1 h; obtain ⟨s19, q20, h⟩ := h
      have f21 := catO_f q20
      try simp only [List.length_cons, List.length_nil, Nat.zero_add, Nat.reduceAdd, Nat.reduceLeDiff, Nat.add_zero, Nat.reduceMul] at f21
      refine AW.dreg mixed hS (hpf ▸ (by kernel_rfl : orderOK pfn _ = true)) [(0, .pv (.slice (List.map PV.str a1))), (1, .pv (.slice (List.map PV.str b2))), (6, .pv (.int .i64 (bif decide ((a1.length : Int) = 1) then (b2.length : Int) else (a1.length : Int)))), (7, .vec 0 (List.length l8)), (8, .pv (.int .i64 i7)), (9, .pv (.str s19))] [.row 9 1 (List.map PV.str l8) true] ?_ ?_
      · simp -implicitDefEqProofs only [RUNS, qindex, Nat.reduceAdd, Nat.reduceLeDiff, Nat.reduceSub, reduceIte, Nat.reduceEqDiff, Nat.reduceLT, reduceCtorEq, Nat.reduceMul, Nat.reduceBEq, Int.reduceEq, if_true, if_false, eq_self, ne_eq, env_bT, T_3, T_9, T_22, P31_eq, Redir.pv_eq, P154_eq, Cmd.pv_eq, P32_eq, Word.pv_eq, GValue.pv_eq, P22_eq, Var.pv_eq, P52_eq, GEnv.pv_eq, eqT_3, f15.1, f15.2.1, f18.1, f18.2.1, eqT_9, f21.1, f21.2]
      refine AW.seq ?_
      refine AW.seq ?_
      refine AW.reg hS [(0, .pv (.slice (List.map PV.str a1))), (1, .pv (.slice (List.map PV.str b2))), (6, .pv (.int .i64 (bif decide ((a1.length : Int) = 1) then (b2.length : Int) else (a1.length : Int)))), (7, .vec 0 (List.length l8)), (8, .pv (.int .i64 i7)), (9, .pv (.str s19)), (66, .pv (.bool (decide (65536 < (s19.length : Int)))))] [.row 9 1 (List.map PV.str l8) true] ?_ ?_
      · simp -implicitDefEqProofs only [RUNS, qindex, Nat.reduceAdd, Nat.reduceLeDiff, Nat.reduceSub, reduceIte, Nat.reduceEqDiff, Nat.reduceLT, reduceCtorEq, Nat.reduceMul, Nat.reduceBEq, Int.reduceEq, if_true, if_false, eq_self, ne_eq, env_bT, T_3, T_9, P31_eq, Redir.pv_eq, P154_eq, Cmd.pv_eq, P32_eq, Word.pv_eq, GValue.pv_eq, P22_eq, Var.pv_eq, P52_eq, GEnv.pv_eq, eqT_3]
      refine AW.cond (b := decide (65536 < (s19.length : Int))) rfl (fun hb22 => ?_) (fun hb22 => ?_)
      · replace h := bif_t hb22 h
        refine AW.seq ?_
        refine AW.reg hS [(4, .nils), (5, .pv (.int .i64 4))] [.row 9 1 (List.map PV.str l8) true] ?_ ?_
        · simp -implicitDefEqProofs only [RUNS, qindex, Nat.reduceAdd, Nat.reduceLeDiff, Nat.reduceSub, reduceIte, Nat.reduceEqDiff, Nat.reduceLT, reduceCtorEq, Nat.reduceMul, Nat.reduceBEq, Int.reduceEq, if_true, if_false, eq_self, ne_eq, env_bT, P31_eq, Redir.pv_eq, P154_eq, Cmd.pv_eq, P32_eq, Word.pv_eq, GValue.pv_eq, P22_eq, Var.pv_eq, P52_eq, GEnv.pv_eq]
        refine AW.ret ?_
        cases h
        show finish _ _ _ _ _ = _
        first | rfl | (simp [finish, resOf, renArgs, toPV, selObjs, sl])
      · replace h := bif_f hb22 h
        refine AW.skip ?_
        replace h := Option.bind_eq_some_iff.1 h; obtain ⟨out23, q24, h⟩ := h
        have f25 := appO_f q24
        try simp only [List.length_cons, List.length_nil, Nat.zero_add, Nat.reduceAdd, Nat.reduceLeDiff, Nat.add_zero, Nat.reduceMul] at f25
        refine AW.reg hS [(0, .pv (.slice (List.map PV.str a1))), (1, .pv (.slice (List.map PV.str b2))), (6, .pv (.int .i64 (bif decide ((a1.length : Int) = 1) then (b2.length : Int) else (a1.length : Int)))), (7, .vec 0 (List.length out23)), (8, .pv (.int .i64 i7))] [.row 9 1 (List.map PV.str out23) true] ?_ ?_
        · simp -implicitDefEqProofs only [RUNS, qindex, Nat.reduceAdd, Nat.reduceLeDiff, Nat.reduceSub, reduceIte, Nat.reduceEqDiff, Nat.reduceLT, reduceCtorEq, Nat.reduceMul, Nat.reduceBEq, Int.reduceEq, if_true, if_false, eq_self, ne_eq, env_bT, T_9, T_22, P31_eq, Redir.pv_eq, P154_eq, Cmd.pv_eq, P32_eq, Word.pv_eq, GValue.pv_eq, P22_eq, Var.pv_eq, P52_eq, GEnv.pv_eq, ownT_22, f25.1, f25.2, str_all] <;> (try simp only [List.length_take, List.length_drop, List.length_map])
        clear f25
        refine AW.reg hS [(0, .pv (.slice (List.map PV.str a1))), (1, .pv (.slice (List.map PV.str b2))), (6, .pv (.int .i64 (bif decide ((a1.length : Int) = 1) then (b2.length : Int) else (a1.length : Int)))), (7, .vec 0 (List.length out23)), (8, .pv (.int .i64 (IntKind.wrap .i64 (i7 + 1))))] [.row 9 1 (List.map PV.str out23) true] ?_ ?_
        · simp -implicitDefEqProofs only [RUNS, qindex, Nat.reduceAdd, Nat.reduceLeDiff, Nat.reduceSub, reduceIte, Nat.reduceEqDiff, Nat.reduceLT, reduceCtorEq, Nat.reduceMul, Nat.reduceBEq, Int.reduceEq, if_true, if_false, eq_self, ne_eq, env_bT, T_3, P31_eq, Redir.pv_eq, P154_eq, Cmd.pv_eq, P32_eq, Word.pv_eq, GValue.pv_eq, P22_eq, Var.pv_eq, P52_eq, GEnv.pv_eq, eqT_3]
        exact ⟨(m11, (IntKind.wrap .i64 (i7 + 1), out23)), h, (Weak.norm (m := 1) (Nat.le_of_ble_eq_true rfl) ⟨rfl, rfl, rfl, rfl, rfl, trivial⟩ rfl rfl rfl), Nat.lt_succ_self _⟩
    · replace h := bif_f hb12 h
      refine AW.exit ?_
      refine AW.seq ?_
      refine AW.reg hS [(4, .vec 0 (List.length l8)), (5, .pv (.int .i64 0))] [.row 9 1 (List.map PV.str l8) true] ?_ ?_
      · simp -implicitDefEqProofs only [RUNS, qindex, Nat.reduceAdd, Nat.reduceLeDiff, Nat.reduceSub, reduceIte, Nat.reduceEqDiff, Nat.reduceLT, reduceCtorEq, Nat.reduceMul, Nat.reduceBEq, Int.reduceEq, if_true, if_false, eq_self, ne_eq, env_bT, P31_eq, Redir.pv_eq, P154_eq, Cmd.pv_eq, P32_eq, Word.pv_eq, GValue.pv_eq, P22_eq, Var.pv_eq, P52_eq, GEnv.pv_eq]
      refine AW.ret ?_
      cases h
      show finish _ _ _ _ _ = _
      first | rfl | (simp [finish, resOf, renArgs, toPV, selObjs, sl])

set_option maxHeartbeats 4000000 in
theorem g_F25 {O : Orc} (hS : Sound env O) (hpf : O.pf = pfn) (s1 : Str) (r2 : Int) (r3 : Bool) (h : F25 s1 = some (r2, r3)) : Good env 25 [.pv (.str s1)] [] [.pv (.int .i64 r2), .pv (.bool r3)] [] := by
  refine Good.start (fn := Tryd.f25) (N := 51) fn_25 rfl rfl (by simp) [] _ rfl rfl ?_
  rw [F25] at h
  refine AW.seq ?_
  refine AW.reg hS [(0, .pv (.str s1))] [] ?_ ?_
  · simp -implicitDefEqProofs only [RUNS, qindex, Nat.reduceAdd, Nat.reduceLeDiff, Nat.reduceSub, reduceIte, Nat.reduceEqDiff, Nat.reduceLT, reduceCtorEq, Nat.reduceMul, Nat.reduceBEq, Int.reduceEq, if_true, if_false, eq_self, ne_eq, env_bT, P31_eq, Redir.pv_eq, P154_eq, Cmd.pv_eq, P32_eq, Word.pv_eq, GValue.pv_eq, P22_eq, Var.pv_eq, P52_eq, GEnv.pv_eq]
  refine AW.seq ?_
  refine AW.reg hS [(0, .pv (.str s1)), (4, .pv (.int .i64 0))] [] ?_ ?_
  · simp -implicitDefEqProofs only [RUNS, qindex, Nat.reduceAdd, Nat.reduceLeDiff, Nat.reduceSub, reduceIte, Nat.reduceEqDiff, Nat.reduceLT, reduceCtorEq, Nat.reduceMul, Nat.reduceBEq, Int.reduceEq, if_true, if_false, eq_self, ne_eq, env_bT, P31_eq, Redir.pv_eq, P154_eq, Cmd.pv_eq, P32_eq, Word.pv_eq, GValue.pv_eq, P22_eq, Var.pv_eq, P52_eq, GEnv.pv_eq]
  refine AW.seq ?_
  refine AW.seq ?_
  refine AW.reg hS [(0, .pv (.str s1)), (4, .pv (.int .i64 0)), (5, .pv (.int .i64 0))] [] ?_ ?_
  · simp -implicitDefEqProofs only [RUNS, qindex, Nat.reduceAdd, Nat.reduceLeDiff, Nat.reduceSub, reduceIte, Nat.reduceEqDiff, Nat.reduceLT, reduceCtorEq, Nat.reduceMul, Nat.reduceBEq, Int.reduceEq, if_true, if_false, eq_self, ne_eq, env_bT, P31_eq, Redir.pv_eq, P154_eq, Cmd.pv_eq, P32_eq, Word.pv_eq, GValue.pv_eq, P22_eq, Var.pv_eq, P52_eq, GEnv.pv_eq]
  refine AW.block ?_
  refine AW.weak (Weak.slots (L := [(0, .pv (.str s1)), (4, .pv (.int .i64 0)), (5, .pv (.int .i64 0))]) ⟨rfl, rfl, rfl, trivial⟩) ?_
  refine AW.loopI (α := Nat × Int × Int) (fun (_, n4, i5) => ⟨sl [(0, .pv (.str s1)), (4, .pv (.int .i64 n4)), (5, .pv (.int .i64 i5))], 51, []⟩) (fun x => iter (F25_b1 s1) x.1 x.2 = some (r2, r3)) (fun x => x.1) (BIG, (0, 0)) h ?_
  clear h
  intro ⟨n17, n4, i5⟩ h
  replace h := iter_some h; obtain ⟨m8, rfl, h⟩ := h
  rw [F25_b1] at h
  try dsimp only at h
  show AW _ _ _ _ ⟨sl [(0, .pv (.str s1)), (4, .pv (.int .i64 n4)), (5, .pv (.int .i64 i5))], 51, []⟩
  refine AW.seq ?_
  refine AW.seq ?_
  refine AW.reg hS [(0, .pv (.str s1)), (4, .pv (.int .i64 n4)), (5, .pv (.int .i64 i5)), (13, .pv (.bool (decide (i5 < (s1.length : Int)) && decide (i5 < 4))))] [] ?_ ?_
  · clear h
    (simp -implicitDefEqProofs only [RUNS, qindex, Nat.reduceAdd, Nat.reduceLeDiff, Nat.reduceSub, reduceIte, Nat.reduceEqDiff, Nat.reduceLT, reduceCtorEq, Nat.reduceMul, Nat.reduceBEq, Int.reduceEq, if_true, if_false, eq_self, ne_eq, env_bT, T_3, T_9, P31_eq, Redir.pv_eq, P154_eq, Cmd.pv_eq, P32_eq, Word.pv_eq, GValue.pv_eq, P22_eq, Var.pv_eq, P52_eq, GEnv.pv_eq, eqT_3]); repeat' (split <;> rename_i hb <;> (try simp only [HBS, ge_iff_le, gt_iff_lt] at hb) <;> simp -implicitDefEqProofs only [RUNS, qindex, Nat.reduceAdd, Nat.reduceLeDiff, Nat.reduceSub, reduceIte, Nat.reduceEqDiff, Nat.reduceLT, reduceCtorEq, Nat.reduceMul, Nat.reduceBEq, Int.reduceEq, if_true, if_false, eq_self, ne_eq, env_bT, T_3, T_9, P31_eq, Redir.pv_eq, P154_eq, Cmd.pv_eq, P32_eq, Word.pv_eq, GValue.pv_eq, P22_eq, Var.pv_eq, P52_eq, GEnv.pv_eq, eqT_3, *, decide_true, decide_false, Decidable.not_not, not_false_eq_true, not_true_eq_false])
    all_goals (first | (simp only [BOOLS]; done) | (simp [*]; done) | ((try simp only [CLOS, beq_iff_eq, bne_iff_ne, ne_eq] at *) <;> omega) | (simp_all; done) | (simp_all <;> omega))
  refine AW.cond (b := (decide (i5 < (s1.length : Int)) && decide (i5 < 4))) rfl (fun hb9 => ?_) (fun hb9 => ?_)
  · replace h := bif_t hb9 h
    refine AW.skip ?_
    refine AW.seq ?_
    refine AW.block ?_
    refine AW.seq ?_
    refine AW.seq ?_
    replace h := Option.bind_eq_some_iff.1 h; obtain ⟨c10, q11, h⟩ := h
    have f12 := sidx_f q11
    refine AW.reg hS [(0, .pv (.str s1)), (4, .pv (.int .i64 n4)), (5, .pv (.int .i64 i5)), (25, .pv (.bool (decide (c10 < 48) || decide (57 < c10))))] [] ?_ ?_
    · clear h
      (simp -implicitDefEqProofs only [RUNS, qindex, Nat.reduceAdd, Nat.reduceLeDiff, Nat.reduceSub, reduceIte, Nat.reduceEqDiff, Nat.reduceLT, reduceCtorEq, Nat.reduceMul, Nat.reduceBEq, Int.reduceEq, if_true, if_false, eq_self, ne_eq, env_bT, T_5, T_9, P31_eq, Redir.pv_eq, P154_eq, Cmd.pv_eq, P32_eq, Word.pv_eq, GValue.pv_eq, P22_eq, Var.pv_eq, P52_eq, GEnv.pv_eq, f12.1, f12.2.1, f12.2.2, eqT_5]); repeat' (split <;> rename_i hb <;> (try simp only [HBS, ge_iff_le, gt_iff_lt] at hb) <;> simp -implicitDefEqProofs only [RUNS, qindex, Nat.reduceAdd, Nat.reduceLeDiff, Nat.reduceSub, reduceIte, Nat.reduceEqDiff, Nat.reduceLT, reduceCtorEq, Nat.reduceMul, Nat.reduceBEq, Int.reduceEq, if_true, if_false, eq_self, ne_eq, env_bT, T_5, T_9, P31_eq, Redir.pv_eq, P154_eq, Cmd.pv_eq, P32_eq, Word.pv_eq, GValue.pv_eq, P22_eq, Var.pv_eq, P52_eq, GEnv.pv_eq, f12.1, f12.2.1, f12.2.2, eqT_5, *, decide_true, decide_false, Decidable.not_not, not_false_eq_true, not_true_eq_false])
      all_goals (first | (simp only [BOOLS]; done) | (simp [*]; done) | ((try simp only [CLOS, beq_iff_eq, bne_iff_ne, ne_eq] at *) <;> omega) | (simp_all; done) | (simp_all <;> omega))
    refine AW.cond (b := (decide (c10 < 48) || decide (57 < c10))) rfl (fun hb13 => ?_) (fun hb13 => ?_)
    · replace h := bif_t hb13 h
      refine AW.seq ?_
      refine AW.reg hS [(2, .pv (.int .i64 0)), (3, .pv (.bool false))] [] ?_ ?_
      · simp -implicitDefEqProofs only [RUNS, qindex, Nat.reduceAdd, Nat.reduceLeDiff, Nat.reduceSub, reduceIte, Nat.reduceEqDiff, Nat.reduceLT, reduceCtorEq, Nat.reduceMul, Nat.reduceBEq, Int.reduceEq, if_true, if_false, eq_self, ne_eq, env_bT, P31_eq, Redir.pv_eq, P154_eq, Cmd.pv_eq, P32_eq, Word.pv_eq, GValue.pv_eq, P22_eq, Var.pv_eq, P52_eq, GEnv.pv_eq]
      refine AW.ret ?_
      cases h
      show finish _ _ _ _ _ = _
      first | rfl | (simp [finish, resOf, renArgs, toPV, selObjs, sl])
    · replace h := bif_f hb13 h
      refine AW.skip ?_
      refine AW.reg hS [(0, .pv (.str s1)), (4, .pv (.int .i64 (IntKind.wrap .i64 ((IntKind.wrap .i64 (10 * n4)) + (IntKind.wrap .i64 (IntKind.wrap .u8 (c10 - 48))))))), (5, .pv (.int .i64 i5))] [] ?_ ?_
      · simp -implicitDefEqProofs only [RUNS, qindex, Nat.reduceAdd, Nat.reduceLeDiff, Nat.reduceSub, reduceIte, Nat.reduceEqDiff, Nat.reduceLT, reduceCtorEq, Nat.reduceMul, Nat.reduceBEq, Int.reduceEq, if_true, if_false, eq_self, ne_eq, env_bT, T_3, T_5, T_9, P31_eq, Redir.pv_eq, P154_eq, Cmd.pv_eq, P32_eq, Word.pv_eq, GValue.pv_eq, P22_eq, Var.pv_eq, P52_eq, GEnv.pv_eq, eqT_3, f12.1, f12.2.1, f12.2.2, eqT_5, qconv_ii T_5 T_3]
      refine AW.reg hS [(0, .pv (.str s1)), (4, .pv (.int .i64 (IntKind.wrap .i64 ((IntKind.wrap .i64 (10 * n4)) + (IntKind.wrap .i64 (IntKind.wrap .u8 (c10 - 48))))))), (5, .pv (.int .i64 (IntKind.wrap .i64 (i5 + 1))))] [] ?_ ?_
      · simp -implicitDefEqProofs only [RUNS, qindex, Nat.reduceAdd, Nat.reduceLeDiff, Nat.reduceSub, reduceIte, Nat.reduceEqDiff, Nat.reduceLT, reduceCtorEq, Nat.reduceMul, Nat.reduceBEq, Int.reduceEq, if_true, if_false, eq_self, ne_eq, env_bT, T_3, P31_eq, Redir.pv_eq, P154_eq, Cmd.pv_eq, P32_eq, Word.pv_eq, GValue.pv_eq, P22_eq, Var.pv_eq, P52_eq, GEnv.pv_eq, eqT_3]
      exact ⟨(m8, (IntKind.wrap .i64 ((IntKind.wrap .i64 (10 * n4)) + (IntKind.wrap .i64 (IntKind.wrap .u8 (c10 - 48)))), IntKind.wrap .i64 (i5 + 1))), h, (Weak.norm (m := 0) (Nat.le_of_ble_eq_true rfl) ⟨rfl, rfl, rfl, trivial⟩ rfl rfl rfl), Nat.lt_succ_self _⟩
  · replace h := bif_f hb9 h
    refine AW.exit ?_
    refine AW.seq ?_
    replace h := Option.bind_eq_some_iff.1 h; obtain ⟨c14, q15, h⟩ := h
    have f16 := sidx_g (guardO_t q15)
    refine AW.dreg mixed hS (hpf ▸ (by kernel_rfl : orderOK pfn _ = true)) [(2, .pv (.int .i64 n4)), (3, .pv (.bool (((decide (1 ≤ n4) && decide (n4 ≤ 256)) && decide ((s1.length : Int) < 4)) && !decide (c14 = 48))))] [] ?_ ?_
    · clear h
      (simp -implicitDefEqProofs only [RUNS, qindex, Nat.reduceAdd, Nat.reduceLeDiff, Nat.reduceSub, reduceIte, Nat.reduceEqDiff, Nat.reduceLT, reduceCtorEq, Nat.reduceMul, Nat.reduceBEq, Int.reduceEq, if_true, if_false, eq_self, ne_eq, env_bT, T_3, T_5, T_9, P31_eq, Redir.pv_eq, P154_eq, Cmd.pv_eq, P32_eq, Word.pv_eq, GValue.pv_eq, P22_eq, Var.pv_eq, P52_eq, GEnv.pv_eq, eqT_3, f16.1, f16.2.1, f16.2.2, eqT_5]); repeat' (split <;> rename_i hb <;> (try simp only [HBS, ge_iff_le, gt_iff_lt] at hb) <;> simp -implicitDefEqProofs only [RUNS, qindex, Nat.reduceAdd, Nat.reduceLeDiff, Nat.reduceSub, reduceIte, Nat.reduceEqDiff, Nat.reduceLT, reduceCtorEq, Nat.reduceMul, Nat.reduceBEq, Int.reduceEq, if_true, if_false, eq_self, ne_eq, env_bT, T_3, T_5, T_9, P31_eq, Redir.pv_eq, P154_eq, Cmd.pv_eq, P32_eq, Word.pv_eq, GValue.pv_eq, P22_eq, Var.pv_eq, P52_eq, GEnv.pv_eq, eqT_3, f16.1, f16.2.1, f16.2.2, eqT_5, *, decide_true, decide_false, Decidable.not_not, not_false_eq_true, not_true_eq_false])
      all_goals (first | (simp only [BOOLS]; done) | (simp [*]; done) | ((try simp only [CLOS, beq_iff_eq, bne_iff_ne, ne_eq] at *) <;> omega) | (simp_all; done) | (simp_all <;> omega))
    refine AW.ret ?_
    cases h
    show finish _ _ _ _ _ = _
    first | rfl | (simp [finish, resOf, renArgs, toPV, selObjs, sl])

set_option maxHeartbeats 4000000 in
theorem g_F12 {O : Orc} (hS : Sound env O) (hpf : O.pf = pfn) (c_F25 : C_F25 O) (values1 : List Str) (idx2 : List Str) (r3 : List Str) (r4 : Int) (h : F12 values1 idx2 = some (r3, r4)) : Good env 12 [.pv (.slice (List.map PV.str values1)), .pv (.slice (List.map PV.str idx2))] [] [.pv (.slice (List.map PV.str r3)), .pv (.int .i64 r4)] [] := by
  have pf_25 : O.pf 25 = true := by rw [hpf]; rfl
  refine Good.start (fn := Tryd.f12) (N := 39) fn_12 rfl rfl (by simp) [] _ rfl rfl ?_
  rw [F12] at h
  refine AW.seq ?_
  refine AW.reg hS [(0, .pv (.slice (List.map PV.str values1))), (1, .pv (.slice (List.map PV.str idx2)))] [] ?_ ?_
  · simp -implicitDefEqProofs only [RUNS, qindex, Nat.reduceAdd, Nat.reduceLeDiff, Nat.reduceSub, reduceIte, Nat.reduceEqDiff, Nat.reduceLT, reduceCtorEq, Nat.reduceMul, Nat.reduceBEq, Int.reduceEq, if_true, if_false, eq_self, ne_eq, env_bT, P31_eq, Redir.pv_eq, P154_eq, Cmd.pv_eq, P32_eq, Word.pv_eq, GValue.pv_eq, P22_eq, Var.pv_eq, P52_eq, GEnv.pv_eq]
  refine AW.seq ?_
  refine AW.reg hS [(0, .pv (.slice (List.map PV.str values1))), (1, .pv (.slice (List.map PV.str idx2))), (6, .nils)] [] ?_ ?_
  · simp -implicitDefEqProofs only [RUNS, qindex, Nat.reduceAdd, Nat.reduceLeDiff, Nat.reduceSub, reduceIte, Nat.reduceEqDiff, Nat.reduceLT, reduceCtorEq, Nat.reduceMul, Nat.reduceBEq, Int.reduceEq, if_true, if_false, eq_self, ne_eq, env_bT, P31_eq, Redir.pv_eq, P154_eq, Cmd.pv_eq, P32_eq, Word.pv_eq, GValue.pv_eq, P22_eq, Var.pv_eq, P52_eq, GEnv.pv_eq]
  refine AW.weak (Weak.own 6 9 1 (by decide) rfl) ?_
  refine AW.weak (Weak.slots (L := [(0, .pv (.slice (List.map PV.str values1))), (1, .pv (.slice (List.map PV.str idx2))), (6, .vec 0 (List.length ([] : List Str)))]) ⟨rfl, rfl, rfl, trivial⟩) ?_
  refine AW.seq ?_
  refine AW.seq ?_
  refine AW.reg hS [(0, .pv (.slice (List.map PV.str values1))), (1, .pv (.slice (List.map PV.str idx2))), (6, .vec 0 (List.length ([] : List Str))), (7, .pv (.int .i64 0))] [.row 9 1 (List.map PV.str ([] : List Str)) true] ?_ ?_
  · simp -implicitDefEqProofs only [RUNS, qindex, Nat.reduceAdd, Nat.reduceLeDiff, Nat.reduceSub, reduceIte, Nat.reduceEqDiff, Nat.reduceLT, reduceCtorEq, Nat.reduceMul, Nat.reduceBEq, Int.reduceEq, if_true, if_false, eq_self, ne_eq, env_bT, P31_eq, Redir.pv_eq, P154_eq, Cmd.pv_eq, P32_eq, Word.pv_eq, GValue.pv_eq, P22_eq, Var.pv_eq, P52_eq, GEnv.pv_eq]
  refine AW.block ?_
  refine AW.weak (Weak.slots (L := [(0, .pv (.slice (List.map PV.str values1))), (1, .pv (.slice (List.map PV.str idx2))), (6, .vec 0 (List.length ([] : List Str))), (7, .pv (.int .i64 0))]) ⟨rfl, rfl, rfl, rfl, trivial⟩) ?_
  refine AW.loopI (α := Nat × Int × (List Str)) (fun (_, i5, l6) => ⟨sl [(0, .pv (.slice (List.map PV.str values1))), (1, .pv (.slice (List.map PV.str idx2))), (6, .vec 0 (List.length l6)), (7, .pv (.int .i64 i5))], 39, [.row 9 1 (List.map PV.str l6) true]⟩) (fun x => iter (F12_b1 idx2 values1) x.1 x.2 = some (r3, r4)) (fun x => x.1) (BIG, (0, ([] : List Str))) h ?_
  clear h
  intro ⟨n26, i5, l6⟩ h
  replace h := iter_some h; obtain ⟨m9, rfl, h⟩ := h
  rw [F12_b1] at h
  try dsimp only at h
  show AW _ _ _ _ ⟨sl [(0, .pv (.slice (List.map PV.str values1))), (1, .pv (.slice (List.map PV.str idx2))), (6, .vec 0 (List.length l6)), (7, .pv (.int .i64 i5))], 39, [.row 9 1 (List.map PV.str l6) true]⟩
  refine AW.seq ?_
  refine AW.seq ?_
  refine AW.reg hS [(0, .pv (.slice (List.map PV.str values1))), (1, .pv (.slice (List.map PV.str idx2))), (6, .vec 0 (List.length l6)), (7, .pv (.int .i64 i5)), (13, .pv (.bool (decide (i5 < (idx2.length : Int)))))] [.row 9 1 (List.map PV.str l6) true] ?_ ?_
  · simp -implicitDefEqProofs only [RUNS, qindex, Nat.reduceAdd, Nat.reduceLeDiff, Nat.reduceSub, reduceIte, Nat.reduceEqDiff, Nat.reduceLT, reduceCtorEq, Nat.reduceMul, Nat.reduceBEq, Int.reduceEq, if_true, if_false, eq_self, ne_eq, env_bT, T_3, T_9, T_22, P31_eq, Redir.pv_eq, P154_eq, Cmd.pv_eq, P32_eq, Word.pv_eq, GValue.pv_eq, P22_eq, Var.pv_eq, P52_eq, GEnv.pv_eq, eqT_3]
  refine AW.cond (b := decide (i5 < (idx2.length : Int))) rfl (fun hb10 => ?_) (fun hb10 => ?_)
  · replace h := bif_t hb10 h
    refine AW.skip ?_
    refine AW.seq ?_
    refine AW.block ?_
    refine AW.seq ?_
    replace h := Option.bind_eq_some_iff.1 h; obtain ⟨w11, q12, h⟩ := h
    have f13 := lidx_f q12
    replace h := Option.bind_eq_some_iff.1 h; obtain ⟨⟨r14, r15⟩, q16, h⟩ := h
    dsimp only at h
    have f17 := c_F25 w11 r14 r15 q16
    try dsimp only at f17
    refine AW.reg hS [(0, .pv (.slice (List.map PV.str values1))), (1, .pv (.slice (List.map PV.str idx2))), (6, .vec 0 (List.length l6)), (7, .pv (.int .i64 i5)), (8, .pv (.int .i64 r14)), (9, .pv (.bool r15))] [.row 9 1 (List.map PV.str l6) true] ?_ ?_
    · simp -implicitDefEqProofs only [RUNS, qindex, Nat.reduceAdd, Nat.reduceLeDiff, Nat.reduceSub, reduceIte, Nat.reduceEqDiff, Nat.reduceLT, reduceCtorEq, Nat.reduceMul, Nat.reduceBEq, Int.reduceEq, if_true, if_false, eq_self, ne_eq, env_bT, T_9, T_22, P31_eq, Redir.pv_eq, P154_eq, Cmd.pv_eq, P32_eq, Word.pv_eq, GValue.pv_eq, P22_eq, Var.pv_eq, P52_eq, GEnv.pv_eq, f13.1, f13.2.1, pf_25, f17]
    refine AW.seq ?_
    refine AW.seq ?_
    refine AW.reg hS [(0, .pv (.slice (List.map PV.str values1))), (1, .pv (.slice (List.map PV.str idx2))), (6, .vec 0 (List.length l6)), (7, .pv (.int .i64 i5)), (8, .pv (.int .i64 r14)), (25, .pv (.bool (!r15)))] [.row 9 1 (List.map PV.str l6) true] ?_ ?_
    · simp -implicitDefEqProofs only [RUNS, qindex, Nat.reduceAdd, Nat.reduceLeDiff, Nat.reduceSub, reduceIte, Nat.reduceEqDiff, Nat.reduceLT, reduceCtorEq, Nat.reduceMul, Nat.reduceBEq, Int.reduceEq, if_true, if_false, eq_self, ne_eq, env_bT, P31_eq, Redir.pv_eq, P154_eq, Cmd.pv_eq, P32_eq, Word.pv_eq, GValue.pv_eq, P22_eq, Var.pv_eq, P52_eq, GEnv.pv_eq]
    refine AW.cond (b := !r15) rfl (fun hb18 => ?_) (fun hb18 => ?_)
    · replace h := bif_t hb18 h
      refine AW.seq ?_
      refine AW.reg hS [(4, .nils), (5, .pv (.int .i64 5))] [.row 9 1 (List.map PV.str l6) true] ?_ ?_
      · simp -implicitDefEqProofs only [RUNS, qindex, Nat.reduceAdd, Nat.reduceLeDiff, Nat.reduceSub, reduceIte, Nat.reduceEqDiff, Nat.reduceLT, reduceCtorEq, Nat.reduceMul, Nat.reduceBEq, Int.reduceEq, if_true, if_false, eq_self, ne_eq, env_bT, P31_eq, Redir.pv_eq, P154_eq, Cmd.pv_eq, P32_eq, Word.pv_eq, GValue.pv_eq, P22_eq, Var.pv_eq, P52_eq, GEnv.pv_eq]
      refine AW.ret ?_
      cases h
      show finish _ _ _ _ _ = _
      first | rfl | (simp [finish, resOf, renArgs, toPV, selObjs, sl])
    · replace h := bif_f hb18 h
      refine AW.skip ?_
      refine AW.seq ?_
      refine AW.reg hS [(0, .pv (.slice (List.map PV.str values1))), (1, .pv (.slice (List.map PV.str idx2))), (6, .vec 0 (List.length l6)), (7, .pv (.int .i64 i5)), (8, .pv (.int .i64 r14)), (29, .pv (.bool (decide (r14 ≤ (values1.length : Int)))))] [.row 9 1 (List.map PV.str l6) true] ?_ ?_
      · simp -implicitDefEqProofs only [RUNS, qindex, Nat.reduceAdd, Nat.reduceLeDiff, Nat.reduceSub, reduceIte, Nat.reduceEqDiff, Nat.reduceLT, reduceCtorEq, Nat.reduceMul, Nat.reduceBEq, Int.reduceEq, if_true, if_false, eq_self, ne_eq, env_bT, T_3, T_9, T_22, P31_eq, Redir.pv_eq, P154_eq, Cmd.pv_eq, P32_eq, Word.pv_eq, GValue.pv_eq, P22_eq, Var.pv_eq, P52_eq, GEnv.pv_eq, eqT_3]
      refine AW.cond (b := decide (r14 ≤ (values1.length : Int))) rfl (fun hb19 => ?_) (fun hb19 => ?_)
      · replace h := bif_t hb19 h
        replace h := Option.bind_eq_some_iff.1 h; obtain ⟨w20, q21, h⟩ := h
        have f22 := lidx_f q21
        replace h := Option.bind_eq_some_iff.1 h; obtain ⟨out23, q24, h⟩ := h
        have f25 := appO_f q24
        try simp only [List.length_cons, List.length_nil, Nat.zero_add, Nat.reduceAdd, Nat.reduceLeDiff, Nat.add_zero, Nat.reduceMul] at f25
        refine AW.reg hS [(0, .pv (.slice (List.map PV.str values1))), (1, .pv (.slice (List.map PV.str idx2))), (6, .vec 0 (List.length out23)), (7, .pv (.int .i64 i5))] [.row 9 1 (List.map PV.str out23) true] ?_ ?_
        · simp -implicitDefEqProofs only [RUNS, qindex, Nat.reduceAdd, Nat.reduceLeDiff, Nat.reduceSub, reduceIte, Nat.reduceEqDiff, Nat.reduceLT, reduceCtorEq, Nat.reduceMul, Nat.reduceBEq, Int.reduceEq, if_true, if_false, eq_self, ne_eq, env_bT, T_3, T_9, T_22, P31_eq, Redir.pv_eq, P154_eq, Cmd.pv_eq, P32_eq, Word.pv_eq, GValue.pv_eq, P22_eq, Var.pv_eq, P52_eq, GEnv.pv_eq, eqT_3, f22.1, f22.2.1, ownT_22, f25.1, f25.2, str_all] <;> (try simp only [List.length_take, List.length_drop, List.length_map])
        clear f25
        refine AW.reg hS [(0, .pv (.slice (List.map PV.str values1))), (1, .pv (.slice (List.map PV.str idx2))), (6, .vec 0 (List.length out23)), (7, .pv (.int .i64 (IntKind.wrap .i64 (i5 + 1))))] [.row 9 1 (List.map PV.str out23) true] ?_ ?_
        · simp -implicitDefEqProofs only [RUNS, qindex, Nat.reduceAdd, Nat.reduceLeDiff, Nat.reduceSub, reduceIte, Nat.reduceEqDiff, Nat.reduceLT, reduceCtorEq, Nat.reduceMul, Nat.reduceBEq, Int.reduceEq, if_true, if_false, eq_self, ne_eq, env_bT, T_3, P31_eq, Redir.pv_eq, P154_eq, Cmd.pv_eq, P32_eq, Word.pv_eq, GValue.pv_eq, P22_eq, Var.pv_eq, P52_eq, GEnv.pv_eq, eqT_3]
        exact ⟨(m9, (IntKind.wrap .i64 (i5 + 1), out23)), h, (Weak.norm (m := 1) (Nat.le_of_ble_eq_true rfl) ⟨rfl, rfl, rfl, rfl, trivial⟩ rfl rfl rfl), Nat.lt_succ_self _⟩
      · replace h := bif_f hb19 h
        refine AW.skip ?_
        refine AW.reg hS [(0, .pv (.slice (List.map PV.str values1))), (1, .pv (.slice (List.map PV.str idx2))), (6, .vec 0 (List.length l6)), (7, .pv (.int .i64 (IntKind.wrap .i64 (i5 + 1))))] [.row 9 1 (List.map PV.str l6) true] ?_ ?_
        · simp -implicitDefEqProofs only [RUNS, qindex, Nat.reduceAdd, Nat.reduceLeDiff, Nat.reduceSub, reduceIte, Nat.reduceEqDiff, Nat.reduceLT, reduceCtorEq, Nat.reduceMul, Nat.reduceBEq, Int.reduceEq, if_true, if_false, eq_self, ne_eq, env_bT, T_3, P31_eq, Redir.pv_eq, P154_eq, Cmd.pv_eq, P32_eq, Word.pv_eq, GValue.pv_eq, P22_eq, Var.pv_eq, P52_eq, GEnv.pv_eq, eqT_3]
        exact ⟨(m9, (IntKind.wrap .i64 (i5 + 1), l6)), h, (Weak.norm (m := 1) (Nat.le_of_ble_eq_true rfl) ⟨rfl, rfl, rfl, rfl, trivial⟩ rfl rfl rfl), Nat.lt_succ_self _⟩
  · replace h := bif_f hb10 h
    refine AW.exit ?_
    refine AW.seq ?_
    refine AW.reg hS [(4, .vec 0 (List.length l6)), (5, .pv (.int .i64 0))] [.row 9 1 (List.map PV.str l6) true] ?_ ?_
    · simp -implicitDefEqProofs only [RUNS, qindex, Nat.reduceAdd, Nat.reduceLeDiff, Nat.reduceSub, reduceIte, Nat.reduceEqDiff, Nat.reduceLT, reduceCtorEq, Nat.reduceMul, Nat.reduceBEq, Int.reduceEq, if_true, if_false, eq_self, ne_eq, env_bT, P31_eq, Redir.pv_eq, P154_eq, Cmd.pv_eq, P32_eq, Word.pv_eq, GValue.pv_eq, P22_eq, Var.pv_eq, P52_eq, GEnv.pv_eq]
    refine AW.ret ?_
    cases h
    show finish _ _ _ _ _ = _
    first | rfl | (simp [finish, resOf, renArgs, toPV, selObjs, sl])

set_option maxHeartbeats 4000000 in
theorem g_F3 {O : Orc} (hS : Sound env O) (hpf : O.pf = pfn) (c_F7 : C_F7 O) (c_F8 : C_F8 O) (c_F9 : C_F9 O) (c_F10 : C_F10 O) (c_F11 : C_F11 O) (c_F12 : C_F12 O) (c_F13 : C_F13 O) (a1 : List Str) (b2 : List Str) (idx3 : List Str) (r4 : Bool) (h : F3 a1 b2 idx3 = some r4) : Good env 3 [.pv (.slice (List.map PV.str a1)), .pv (.slice (List.map PV.str b2)), .pv (.slice (List.map PV.str idx3))] [] [.pv (.bool r4)] [] := by
  have pf_7 : O.pf 7 = true := by rw [hpf]; rfl
  have pf_8 : O.pf 8 = true := by rw [hpf]; rfl
  have pf_9 : O.pf 9 = true := by rw [hpf]; rfl
  have pf_10 : O.pf 10 = true := by rw [hpf]; rfl
  have pf_11 : O.pf 11 = true := by rw [hpf]; rfl
  have pf_12 : O.pf 12 = true := by rw [hpf]; rfl
  have pf_13 : O.pf 13 = true := by rw [hpf]; rfl
  refine Good.start (fn := Tryd.f3) (N := 74) fn_3 rfl rfl (by simp) [] _ rfl rfl ?_
  rw [F3] at h
  refine AW.seq ?_
  refine AW.reg hS [(0, .pv (.slice (List.map PV.str a1))), (1, .pv (.slice (List.map PV.str b2))), (2, .pv (.slice (List.map PV.str idx3)))] [] ?_ ?_
  · simp -implicitDefEqProofs only [RUNS, qindex, Nat.reduceAdd, Nat.reduceLeDiff, Nat.reduceSub, reduceIte, Nat.reduceEqDiff, Nat.reduceLT, reduceCtorEq, Nat.reduceMul, Nat.reduceBEq, Int.reduceEq, if_true, if_false, eq_self, ne_eq, env_bT, P31_eq, Redir.pv_eq, P154_eq, Cmd.pv_eq, P32_eq, Word.pv_eq, GValue.pv_eq, P22_eq, Var.pv_eq, P52_eq, GEnv.pv_eq]
  refine AW.seq ?_
  refine AW.seq ?_
  replace h := Option.bind_eq_some_iff.1 h; obtain ⟨r5, q6, h⟩ := h
  have f7 := c_F7 a1 70000 r5 q6
  try dsimp only at f7
  replace h := Option.bind_eq_some_iff.1 h; obtain ⟨r8, q9, h⟩ := h
  have f10 := fun hg => c_F7 b2 70000 r8 (guardO_t q9 hg)
  try dsimp only at f10
  replace h := Option.bind_eq_some_iff.1 h; obtain ⟨r11, q12, h⟩ := h
  have f13 := fun hg => c_F7 idx3 2000 r11 (guardO_t q12 hg)
  try dsimp only at f13
  refine AW.reg hS [(0, .pv (.slice (List.map PV.str a1))), (1, .pv (.slice (List.map PV.str b2))), (2, .pv (.slice (List.map PV.str idx3))), (27, .pv (.bool ((!r5 || !r8) || !r11)))] [] ?_ ?_
  · clear h
    (simp -implicitDefEqProofs only [RUNS, qindex, Nat.reduceAdd, Nat.reduceLeDiff, Nat.reduceSub, reduceIte, Nat.reduceEqDiff, Nat.reduceLT, reduceCtorEq, Nat.reduceMul, Nat.reduceBEq, Int.reduceEq, if_true, if_false, eq_self, ne_eq, env_bT, T_3, T_9, T_22, P31_eq, Redir.pv_eq, P154_eq, Cmd.pv_eq, P32_eq, Word.pv_eq, GValue.pv_eq, P22_eq, Var.pv_eq, P52_eq, GEnv.pv_eq, pf_7, f7, f10, f13]); repeat' (split <;> rename_i hb <;> (try simp only [HBS, ge_iff_le, gt_iff_lt] at hb) <;> simp -implicitDefEqProofs only [RUNS, qindex, Nat.reduceAdd, Nat.reduceLeDiff, Nat.reduceSub, reduceIte, Nat.reduceEqDiff, Nat.reduceLT, reduceCtorEq, Nat.reduceMul, Nat.reduceBEq, Int.reduceEq, if_true, if_false, eq_self, ne_eq, env_bT, T_3, T_9, T_22, P31_eq, Redir.pv_eq, P154_eq, Cmd.pv_eq, P32_eq, Word.pv_eq, GValue.pv_eq, P22_eq, Var.pv_eq, P52_eq, GEnv.pv_eq, pf_7, f7, f10, f13, *, decide_true, decide_false, Decidable.not_not, not_false_eq_true, not_true_eq_false])
    all_goals (first | (simp only [BOOLS]; done) | (simp [*]; done) | ((try simp only [CLOS, beq_iff_eq, bne_iff_ne, ne_eq] at *) <;> omega) | (simp_all; done) | (simp_all <;> omega))
  refine AW.cond (b := ((!r5 || !r8) || !r11)) rfl (fun hb14 => ?_) (fun hb14 => ?_)
  · replace h := bif_t hb14 h
    refine AW.seq ?_
    replace h := Option.bind_eq_some_iff.1 h; obtain ⟨r15, q16, h⟩ := h
    have f17 := c_F8 r15 q16
    try dsimp only at f17
    refine AW.reg hS [(6, .pv (.bool r15))] [] ?_ ?_
    · simp -implicitDefEqProofs only [RUNS, qindex, Nat.reduceAdd, Nat.reduceLeDiff, Nat.reduceSub, reduceIte, Nat.reduceEqDiff, Nat.reduceLT, reduceCtorEq, Nat.reduceMul, Nat.reduceBEq, Int.reduceEq, if_true, if_false, eq_self, ne_eq, env_bT, P31_eq, Redir.pv_eq, P154_eq, Cmd.pv_eq, P32_eq, Word.pv_eq, GValue.pv_eq, P22_eq, Var.pv_eq, P52_eq, GEnv.pv_eq, pf_8, f17]
    refine AW.ret ?_
    cases h
    show finish _ _ _ _ _ = _
    first | rfl | (simp [finish, resOf, renArgs, toPV, selObjs, sl])
  · replace h := bif_f hb14 h
    refine AW.skip ?_
    refine AW.seq ?_
    replace h := Option.bind_eq_some_iff.1 h; obtain ⟨⟨r18, r19⟩, q20, h⟩ := h
    dsimp only at h
    have f21 := c_F9 a1 b2 r18 r19 q20
    try dsimp only at f21
    refine AW.reg hS [(0, .pv (.slice (List.map PV.str a1))), (1, .pv (.slice (List.map PV.str b2))), (2, .pv (.slice (List.map PV.str idx3))), (7, .pv (.slice (List.map PV.str r18))), (8, .pv (.int .i64 r19))] [] ?_ ?_
    · simp -implicitDefEqProofs only [RUNS, qindex, Nat.reduceAdd, Nat.reduceLeDiff, Nat.reduceSub, reduceIte, Nat.reduceEqDiff, Nat.reduceLT, reduceCtorEq, Nat.reduceMul, Nat.reduceBEq, Int.reduceEq, if_true, if_false, eq_self, ne_eq, env_bT, T_9, T_22, P31_eq, Redir.pv_eq, P154_eq, Cmd.pv_eq, P32_eq, Word.pv_eq, GValue.pv_eq, P22_eq, Var.pv_eq, P52_eq, GEnv.pv_eq, pf_9, f21]
    refine AW.seq ?_
    replace h := Option.bind_eq_some_iff.1 h; obtain ⟨⟨r22, r23⟩, q24, h⟩ := h
    dsimp only at h
    have f25 := c_F10 a1 b2 r22 r23 q24
    try dsimp only at f25
    refine AW.reg hS [(0, .pv (.slice (List.map PV.str a1))), (2, .pv (.slice (List.map PV.str idx3))), (7, .pv (.slice (List.map PV.str r18))), (8, .pv (.int .i64 r19)), (9, .pv (.slice (List.map PV.str r22))), (10, .pv (.int .i64 r23))] [] ?_ ?_
    · simp -implicitDefEqProofs only [RUNS, qindex, Nat.reduceAdd, Nat.reduceLeDiff, Nat.reduceSub, reduceIte, Nat.reduceEqDiff, Nat.reduceLT, reduceCtorEq, Nat.reduceMul, Nat.reduceBEq, Int.reduceEq, if_true, if_false, eq_self, ne_eq, env_bT, T_9, T_22, P31_eq, Redir.pv_eq, P154_eq, Cmd.pv_eq, P32_eq, Word.pv_eq, GValue.pv_eq, P22_eq, Var.pv_eq, P52_eq, GEnv.pv_eq, pf_10, f25]
    refine AW.seq ?_
    replace h := Option.bind_eq_some_iff.1 h; obtain ⟨⟨r26, r27⟩, q28, h⟩ := h
    dsimp only at h
    have f29 := c_F11 a1 idx3 r26 r27 q28
    try dsimp only at f29
    refine AW.reg hS [(0, .pv (.slice (List.map PV.str a1))), (2, .pv (.slice (List.map PV.str idx3))), (7, .pv (.slice (List.map PV.str r18))), (8, .pv (.int .i64 r19)), (9, .pv (.slice (List.map PV.str r22))), (10, .pv (.int .i64 r23)), (11, .pv (.slice (List.map PV.str r26))), (12, .pv (.int .i64 r27))] [] ?_ ?_
    · simp -implicitDefEqProofs only [RUNS, qindex, Nat.reduceAdd, Nat.reduceLeDiff, Nat.reduceSub, reduceIte, Nat.reduceEqDiff, Nat.reduceLT, reduceCtorEq, Nat.reduceMul, Nat.reduceBEq, Int.reduceEq, if_true, if_false, eq_self, ne_eq, env_bT, T_9, T_22, P31_eq, Redir.pv_eq, P154_eq, Cmd.pv_eq, P32_eq, Word.pv_eq, GValue.pv_eq, P22_eq, Var.pv_eq, P52_eq, GEnv.pv_eq, pf_11, f29]
    refine AW.seq ?_
    replace h := Option.bind_eq_some_iff.1 h; obtain ⟨⟨r30, r31⟩, q32, h⟩ := h
    dsimp only at h
    have f33 := c_F12 a1 idx3 r30 r31 q32
    try dsimp only at f33
    refine AW.reg hS [(7, .pv (.slice (List.map PV.str r18))), (8, .pv (.int .i64 r19)), (9, .pv (.slice (List.map PV.str r22))), (10, .pv (.int .i64 r23)), (11, .pv (.slice (List.map PV.str r26))), (12, .pv (.int .i64 r27)), (13, .pv (.slice (List.map PV.str r30))), (14, .pv (.int .i64 r31))] [] ?_ ?_
    · simp -implicitDefEqProofs only [RUNS, qindex, Nat.reduceAdd, Nat.reduceLeDiff, Nat.reduceSub, reduceIte, Nat.reduceEqDiff, Nat.reduceLT, reduceCtorEq, Nat.reduceMul, Nat.reduceBEq, Int.reduceEq, if_true, if_false, eq_self, ne_eq, env_bT, T_9, T_22, P31_eq, Redir.pv_eq, P154_eq, Cmd.pv_eq, P32_eq, Word.pv_eq, GValue.pv_eq, P22_eq, Var.pv_eq, P52_eq, GEnv.pv_eq, pf_12, f33]
    refine AW.seq ?_
    replace h := Option.bind_eq_some_iff.1 h; obtain ⟨r34, q35, h⟩ := h
    have f36 := c_F13 r18 r22 r34 q35
    try dsimp only at f36
    replace h := Option.bind_eq_some_iff.1 h; obtain ⟨r37, q38, h⟩ := h
    have f39 := fun hg => c_F13 r26 r30 r37 (guardO_t q38 hg)
    try dsimp only at f39
    replace h := Option.bind_eq_some_iff.1 h; obtain ⟨r40, q41, h⟩ := h
    have f42 := fun hg => c_F8 r40 (guardO_t q41 hg)
    try dsimp only at f42
    refine AW.reg hS [(6, .pv (.bool ((((r34 && decide (r19 = r23)) && r37) && decide (r27 = r31)) && r40)))] [] ?_ ?_
    · clear h
      (simp -implicitDefEqProofs only [RUNS, qindex, Nat.reduceAdd, Nat.reduceLeDiff, Nat.reduceSub, reduceIte, Nat.reduceEqDiff, Nat.reduceLT, reduceCtorEq, Nat.reduceMul, Nat.reduceBEq, Int.reduceEq, if_true, if_false, eq_self, ne_eq, env_bT, T_9, T_22, T_25, P31_eq, Redir.pv_eq, P154_eq, Cmd.pv_eq, P32_eq, Word.pv_eq, GValue.pv_eq, P22_eq, Var.pv_eq, P52_eq, GEnv.pv_eq, pf_13, f36, eqT_25, f39, pf_8, f42]); repeat' (split <;> rename_i hb <;> (try simp only [HBS, ge_iff_le, gt_iff_lt] at hb) <;> simp -implicitDefEqProofs only [RUNS, qindex, Nat.reduceAdd, Nat.reduceLeDiff, Nat.reduceSub, reduceIte, Nat.reduceEqDiff, Nat.reduceLT, reduceCtorEq, Nat.reduceMul, Nat.reduceBEq, Int.reduceEq, if_true, if_false, eq_self, ne_eq, env_bT, T_9, T_22, T_25, P31_eq, Redir.pv_eq, P154_eq, Cmd.pv_eq, P32_eq, Word.pv_eq, GValue.pv_eq, P22_eq, Var.pv_eq, P52_eq, GEnv.pv_eq, pf_13, f36, eqT_25, f39, pf_8, f42, *, decide_true, decide_false, Decidable.not_not, not_false_eq_true, not_true_eq_false])
      all_goals (first | (simp only [BOOLS]; done) | (simp [*]; done) | ((try simp only [CLOS, beq_iff_eq, bne_iff_ne, ne_eq] at *) <;> omega) | (simp_all; done) | (simp_all <;> omega))
    refine AW.ret ?_
    cases h
    show finish _ _ _ _ _ = _
    first | rfl | (simp [finish, resOf, renArgs, toPV, selObjs, sl])

set_option maxHeartbeats 4000000 in
theorem g_F14 {O : Orc} (hS : Sound env O) (hpf : O.pf = pfn) (c_F7 : C_F7 O) (l1 : List GEnv) (r2 : Bool) (h : F14 l1 = some r2) : Good env 14 [.pv (.slice (List.map GEnv.pv l1))] [] [.pv (.bool r2)] [] := by
  have pf_7 : O.pf 7 = true := by rw [hpf]; rfl
  refine Good.start (fn := Tryd.f14) (N := 55) fn_14 rfl rfl (by simp) [] _ rfl rfl ?_
  rw [F14] at h
  refine AW.seq ?_
  refine AW.reg hS [(0, .pv (.slice (List.map GEnv.pv l1)))] [] ?_ ?_
  · simp -implicitDefEqProofs only [RUNS, qindex, Nat.reduceAdd, Nat.reduceLeDiff, Nat.reduceSub, reduceIte, Nat.reduceEqDiff, Nat.reduceLT, reduceCtorEq, Nat.reduceMul, Nat.reduceBEq, Int.reduceEq, if_true, if_false, eq_self, ne_eq, env_bT, P31_eq, Redir.pv_eq, P154_eq, Cmd.pv_eq, P32_eq, Word.pv_eq, GValue.pv_eq, P22_eq, Var.pv_eq, P52_eq, GEnv.pv_eq]
  refine AW.seq ?_
  refine AW.seq ?_
  refine AW.reg hS [(0, .pv (.slice (List.map GEnv.pv l1))), (7, .pv (.bool (decide (10 < (l1.length : Int)))))] [] ?_ ?_
  · simp -implicitDefEqProofs only [RUNS, qindex, Nat.reduceAdd, Nat.reduceLeDiff, Nat.reduceSub, reduceIte, Nat.reduceEqDiff, Nat.reduceLT, reduceCtorEq, Nat.reduceMul, Nat.reduceBEq, Int.reduceEq, if_true, if_false, eq_self, ne_eq, env_bT, T_3, T_30, T_54, P31_eq, Redir.pv_eq, P154_eq, Cmd.pv_eq, P32_eq, Word.pv_eq, GValue.pv_eq, P22_eq, Var.pv_eq, P52_eq, GEnv.pv_eq, eqT_3]
  refine AW.cond (b := decide (10 < (l1.length : Int))) rfl (fun hb3 => ?_) (fun hb3 => ?_)
  · replace h := bif_t hb3 h
    refine AW.seq ?_
    refine AW.reg hS [(2, .pv (.bool false))] [] ?_ ?_
    · simp -implicitDefEqProofs only [RUNS, qindex, Nat.reduceAdd, Nat.reduceLeDiff, Nat.reduceSub, reduceIte, Nat.reduceEqDiff, Nat.reduceLT, reduceCtorEq, Nat.reduceMul, Nat.reduceBEq, Int.reduceEq, if_true, if_false, eq_self, ne_eq, env_bT, P31_eq, Redir.pv_eq, P154_eq, Cmd.pv_eq, P32_eq, Word.pv_eq, GValue.pv_eq, P22_eq, Var.pv_eq, P52_eq, GEnv.pv_eq]
    refine AW.ret ?_
    cases h
    show finish _ _ _ _ _ = _
    first | rfl | (simp [finish, resOf, renArgs, toPV, selObjs, sl])
  · replace h := bif_f hb3 h
    refine AW.skip ?_
    refine AW.seq ?_
    refine AW.seq ?_
    refine AW.reg hS [(0, .pv (.slice (List.map GEnv.pv l1))), (9, .pv (.int .i64 (l1.length : Int))), (10, .pv (.int .i64 0))] [] ?_ ?_
    · simp -implicitDefEqProofs only [RUNS, qindex, Nat.reduceAdd, Nat.reduceLeDiff, Nat.reduceSub, reduceIte, Nat.reduceEqDiff, Nat.reduceLT, reduceCtorEq, Nat.reduceMul, Nat.reduceBEq, Int.reduceEq, if_true, if_false, eq_self, ne_eq, env_bT, T_30, T_54, P31_eq, Redir.pv_eq, P154_eq, Cmd.pv_eq, P32_eq, Word.pv_eq, GValue.pv_eq, P22_eq, Var.pv_eq, P52_eq, GEnv.pv_eq]
    refine AW.block ?_
    refine AW.weak (Weak.slots (L := [(0, .pv (.slice (List.map GEnv.pv l1))), (9, .pv (.int .i64 (l1.length : Int))), (10, .pv (.int .i64 0))]) ⟨rfl, rfl, rfl, trivial⟩) ?_
    refine AW.loopI (α := Nat × Int) (fun (_, i4) => ⟨sl [(0, .pv (.slice (List.map GEnv.pv l1))), (9, .pv (.int .i64 (l1.length : Int))), (10, .pv (.int .i64 i4))], 55, []⟩) (fun x => iter (F14_b2 l1) x.1 x.2 = some r2) (fun x => x.1) (BIG, 0) h ?_
    clear h
    intro ⟨n26, i4⟩ h
    replace h := iter_some h; obtain ⟨m7, rfl, h⟩ := h
    rw [F14_b2] at h
    try dsimp only at h
    show AW _ _ _ _ ⟨sl [(0, .pv (.slice (List.map GEnv.pv l1))), (9, .pv (.int .i64 (l1.length : Int))), (10, .pv (.int .i64 i4))], 55, []⟩
    refine AW.seq ?_
    refine AW.reg hS [(0, .pv (.slice (List.map GEnv.pv l1))), (9, .pv (.int .i64 (l1.length : Int))), (10, .pv (.int .i64 i4)), (11, .pv (.bool (decide (i4 < (l1.length : Int)))))] [] ?_ ?_
    · simp -implicitDefEqProofs only [RUNS, qindex, Nat.reduceAdd, Nat.reduceLeDiff, Nat.reduceSub, reduceIte, Nat.reduceEqDiff, Nat.reduceLT, reduceCtorEq, Nat.reduceMul, Nat.reduceBEq, Int.reduceEq, if_true, if_false, eq_self, ne_eq, env_bT, T_3, P31_eq, Redir.pv_eq, P154_eq, Cmd.pv_eq, P32_eq, Word.pv_eq, GValue.pv_eq, P22_eq, Var.pv_eq, P52_eq, GEnv.pv_eq, eqT_3]
    refine AW.seq ?_
    refine AW.cond (b := decide (i4 < (l1.length : Int))) rfl (fun hb8 => ?_) (fun hb8 => ?_)
    · replace h := bif_t hb8 h
      refine AW.skip ?_
      refine AW.seq ?_
      refine AW.block ?_
      refine AW.seq ?_
      refine AW.reg hS [(0, .pv (.slice (List.map GEnv.pv l1))), (3, .pv (.int .i64 i4)), (9, .pv (.int .i64 (l1.length : Int))), (10, .pv (.int .i64 i4))] [] ?_ ?_
      · simp -implicitDefEqProofs only [RUNS, qindex, Nat.reduceAdd, Nat.reduceLeDiff, Nat.reduceSub, reduceIte, Nat.reduceEqDiff, Nat.reduceLT, reduceCtorEq, Nat.reduceMul, Nat.reduceBEq, Int.reduceEq, if_true, if_false, eq_self, ne_eq, env_bT, P31_eq, Redir.pv_eq, P154_eq, Cmd.pv_eq, P32_eq, Word.pv_eq, GValue.pv_eq, P22_eq, Var.pv_eq, P52_eq, GEnv.pv_eq]
      refine AW.seq ?_
      refine AW.seq ?_
      replace h := Option.bind_eq_some_iff.1 h; obtain ⟨u9, q10, h⟩ := h
      have f11 := lidx_f q10
      refine AW.reg hS [(0, .pv (.slice (List.map GEnv.pv l1))), (3, .pv (.int .i64 i4)), (9, .pv (.int .i64 (l1.length : Int))), (10, .pv (.int .i64 i4)), (19, .pv (.bool (decide (20 < (u9.vars_.length : Int)))))] [] ?_ ?_
      · simp -implicitDefEqProofs only [RUNS, qindex, Nat.reduceAdd, Nat.reduceLeDiff, Nat.reduceSub, reduceIte, Nat.reduceEqDiff, Nat.reduceLT, reduceCtorEq, Nat.reduceMul, Nat.reduceBEq, Int.reduceEq, if_true, if_false, eq_self, ne_eq, env_bT, T_3, T_30, T_52, T_54, T_56, P31_eq, Redir.pv_eq, P154_eq, Cmd.pv_eq, P32_eq, Word.pv_eq, GValue.pv_eq, P22_eq, Var.pv_eq, P52_eq, GEnv.pv_eq, f11.1, f11.2.1, eqT_3]
      refine AW.cond (b := decide (20 < (u9.vars_.length : Int))) rfl (fun hb12 => ?_) (fun hb12 => ?_)
      · replace h := bif_t hb12 h
        refine AW.seq ?_
        refine AW.reg hS [(2, .pv (.bool false))] [] ?_ ?_
        · simp -implicitDefEqProofs only [RUNS, qindex, Nat.reduceAdd, Nat.reduceLeDiff, Nat.reduceSub, reduceIte, Nat.reduceEqDiff, Nat.reduceLT, reduceCtorEq, Nat.reduceMul, Nat.reduceBEq, Int.reduceEq, if_true, if_false, eq_self, ne_eq, env_bT, P31_eq, Redir.pv_eq, P154_eq, Cmd.pv_eq, P32_eq, Word.pv_eq, GValue.pv_eq, P22_eq, Var.pv_eq, P52_eq, GEnv.pv_eq]
        refine AW.ret ?_
        cases h
        show finish _ _ _ _ _ = _
        first | rfl | (simp [finish, resOf, renArgs, toPV, selObjs, sl])
      · replace h := bif_f hb12 h
        refine AW.skip ?_
        refine AW.seq ?_
        refine AW.reg hS [(0, .pv (.slice (List.map GEnv.pv l1))), (3, .pv (.int .i64 i4)), (9, .pv (.int .i64 (l1.length : Int))), (10, .pv (.int .i64 i4)), (25, .pv (.int .i64 (u9.vars_.length : Int))), (26, .pv (.int .i64 0))] [] ?_ ?_
        · simp -implicitDefEqProofs only [RUNS, qindex, Nat.reduceAdd, Nat.reduceLeDiff, Nat.reduceSub, reduceIte, Nat.reduceEqDiff, Nat.reduceLT, reduceCtorEq, Nat.reduceMul, Nat.reduceBEq, Int.reduceEq, if_true, if_false, eq_self, ne_eq, env_bT, T_30, T_52, T_54, T_56, P31_eq, Redir.pv_eq, P154_eq, Cmd.pv_eq, P32_eq, Word.pv_eq, GValue.pv_eq, P22_eq, Var.pv_eq, P52_eq, GEnv.pv_eq, f11.1, f11.2.1]
        refine AW.block ?_
        refine AW.weak (Weak.slots (L := [(0, .pv (.slice (List.map GEnv.pv l1))), (3, .pv (.int .i64 i4)), (9, .pv (.int .i64 (l1.length : Int))), (10, .pv (.int .i64 i4)), (25, .pv (.int .i64 (u9.vars_.length : Int))), (26, .pv (.int .i64 0))]) ⟨rfl, rfl, rfl, rfl, rfl, rfl, trivial⟩) ?_
        refine AW.loopI (α := Nat × Int) (fun (_, i13) => ⟨sl [(0, .pv (.slice (List.map GEnv.pv l1))), (3, .pv (.int .i64 i4)), (9, .pv (.int .i64 (l1.length : Int))), (10, .pv (.int .i64 i4)), (25, .pv (.int .i64 (u9.vars_.length : Int))), (26, .pv (.int .i64 i13))], 55, []⟩) (fun x => iter (F14_b3 u9 (iter (F14_b2 l1) m7) i4) x.1 x.2 = some r2) (fun x => x.1) (BIG, 0) h ?_
        clear h
        intro ⟨n25, i13⟩ h
        replace h := iter_some h; obtain ⟨m16, rfl, h⟩ := h
        rw [F14_b3] at h
        try dsimp only at h
        show AW _ _ _ _ ⟨sl [(0, .pv (.slice (List.map GEnv.pv l1))), (3, .pv (.int .i64 i4)), (9, .pv (.int .i64 (l1.length : Int))), (10, .pv (.int .i64 i4)), (25, .pv (.int .i64 (u9.vars_.length : Int))), (26, .pv (.int .i64 i13))], 55, []⟩
        refine AW.seq ?_
        refine AW.reg hS [(0, .pv (.slice (List.map GEnv.pv l1))), (3, .pv (.int .i64 i4)), (9, .pv (.int .i64 (l1.length : Int))), (10, .pv (.int .i64 i4)), (25, .pv (.int .i64 (u9.vars_.length : Int))), (26, .pv (.int .i64 i13)), (27, .pv (.bool (decide (i13 < (u9.vars_.length : Int)))))] [] ?_ ?_
        · simp -implicitDefEqProofs only [RUNS, qindex, Nat.reduceAdd, Nat.reduceLeDiff, Nat.reduceSub, reduceIte, Nat.reduceEqDiff, Nat.reduceLT, reduceCtorEq, Nat.reduceMul, Nat.reduceBEq, Int.reduceEq, if_true, if_false, eq_self, ne_eq, env_bT, T_3, P31_eq, Redir.pv_eq, P154_eq, Cmd.pv_eq, P32_eq, Word.pv_eq, GValue.pv_eq, P22_eq, Var.pv_eq, P52_eq, GEnv.pv_eq, eqT_3]
        refine AW.seq ?_
        refine AW.cond (b := decide (i13 < (u9.vars_.length : Int))) rfl (fun hb17 => ?_) (fun hb17 => ?_)
        · replace h := bif_t hb17 h
          refine AW.skip ?_
          refine AW.seq ?_
          refine AW.block ?_
          refine AW.seq ?_
          refine AW.reg hS [(0, .pv (.slice (List.map GEnv.pv l1))), (3, .pv (.int .i64 i4)), (4, .pv (.int .i64 i13)), (9, .pv (.int .i64 (l1.length : Int))), (10, .pv (.int .i64 i4)), (25, .pv (.int .i64 (u9.vars_.length : Int))), (26, .pv (.int .i64 i13))] [] ?_ ?_
          · simp -implicitDefEqProofs only [RUNS, qindex, Nat.reduceAdd, Nat.reduceLeDiff, Nat.reduceSub, reduceIte, Nat.reduceEqDiff, Nat.reduceLT, reduceCtorEq, Nat.reduceMul, Nat.reduceBEq, Int.reduceEq, if_true, if_false, eq_self, ne_eq, env_bT, P31_eq, Redir.pv_eq, P154_eq, Cmd.pv_eq, P32_eq, Word.pv_eq, GValue.pv_eq, P22_eq, Var.pv_eq, P52_eq, GEnv.pv_eq]
          refine AW.seq ?_
          replace h := Option.bind_eq_some_iff.1 h; obtain ⟨u18, q19, h⟩ := h
          have f20 := lidx_f q19
          replace h := Option.bind_eq_some_iff.1 h; obtain ⟨r21, q22, h⟩ := h
          have f23 := c_F7 u18.values_ 2000 r21 q22
          try dsimp only at f23
          refine AW.reg hS [(0, .pv (.slice (List.map GEnv.pv l1))), (3, .pv (.int .i64 i4)), (9, .pv (.int .i64 (l1.length : Int))), (10, .pv (.int .i64 i4)), (25, .pv (.int .i64 (u9.vars_.length : Int))), (26, .pv (.int .i64 i13)), (52, .pv (.bool (!r21 || decide (100 < (u18.name_.length : Int)))))] [] ?_ ?_
          · clear h
            (simp -implicitDefEqProofs only [RUNS, qindex, Nat.reduceAdd, Nat.reduceLeDiff, Nat.reduceSub, reduceIte, Nat.reduceEqDiff, Nat.reduceLT, reduceCtorEq, Nat.reduceMul, Nat.reduceBEq, Int.reduceEq, if_true, if_false, eq_self, ne_eq, env_bT, T_3, T_9, T_22, T_30, T_52, T_54, T_56, P31_eq, Redir.pv_eq, P154_eq, Cmd.pv_eq, P32_eq, Word.pv_eq, GValue.pv_eq, P22_eq, Var.pv_eq, P52_eq, GEnv.pv_eq, f11.1, f11.2.1, f20.1, f20.2.1, pf_7, f23, eqT_3]); repeat' (split <;> rename_i hb <;> (try simp only [HBS, ge_iff_le, gt_iff_lt] at hb) <;> simp -implicitDefEqProofs only [RUNS, qindex, Nat.reduceAdd, Nat.reduceLeDiff, Nat.reduceSub, reduceIte, Nat.reduceEqDiff, Nat.reduceLT, reduceCtorEq, Nat.reduceMul, Nat.reduceBEq, Int.reduceEq, if_true, if_false, eq_self, ne_eq, env_bT, T_3, T_9, T_22, T_30, T_52, T_54, T_56, P31_eq, Redir.pv_eq, P154_eq, Cmd.pv_eq, P32_eq, Word.pv_eq, GValue.pv_eq, P22_eq, Var.pv_eq, P52_eq, GEnv.pv_eq, f11.1, f11.2.1, f20.1, f20.2.1, pf_7, f23, eqT_3, *, decide_true, decide_false, Decidable.not_not, not_false_eq_true, not_true_eq_false])
            all_goals (first | (simp only [BOOLS]; done) | (simp [*]; done) | ((try simp only [CLOS, beq_iff_eq, bne_iff_ne, ne_eq] at *) <;> omega) | (simp_all; done) | (simp_all <;> omega))
          refine AW.cond (b := (!r21 || decide (100 < (u18.name_.length : Int)))) rfl (fun hb24 => ?_) (fun hb24 => ?_)
          · replace h := bif_t hb24 h
            refine AW.seq ?_
            refine AW.reg hS [(2, .pv (.bool false))] [] ?_ ?_
            · simp -implicitDefEqProofs only [RUNS, qindex, Nat.reduceAdd, Nat.reduceLeDiff, Nat.reduceSub, reduceIte, Nat.reduceEqDiff, Nat.reduceLT, reduceCtorEq, Nat.reduceMul, Nat.reduceBEq, Int.reduceEq, if_true, if_false, eq_self, ne_eq, env_bT, P31_eq, Redir.pv_eq, P154_eq, Cmd.pv_eq, P32_eq, Word.pv_eq, GValue.pv_eq, P22_eq, Var.pv_eq, P52_eq, GEnv.pv_eq]
            refine AW.ret ?_
            cases h
            show finish _ _ _ _ _ = _
            first | rfl | (simp [finish, resOf, renArgs, toPV, selObjs, sl])
          · replace h := bif_f hb24 h
            refine AW.skip ?_
            refine AW.reg hS [(0, .pv (.slice (List.map GEnv.pv l1))), (3, .pv (.int .i64 i4)), (9, .pv (.int .i64 (l1.length : Int))), (10, .pv (.int .i64 i4)), (25, .pv (.int .i64 (u9.vars_.length : Int))), (26, .pv (.int .i64 (IntKind.wrap .i64 (i13 + 1))))] [] ?_ ?_
            · simp -implicitDefEqProofs only [RUNS, qindex, Nat.reduceAdd, Nat.reduceLeDiff, Nat.reduceSub, reduceIte, Nat.reduceEqDiff, Nat.reduceLT, reduceCtorEq, Nat.reduceMul, Nat.reduceBEq, Int.reduceEq, if_true, if_false, eq_self, ne_eq, env_bT, T_3, P31_eq, Redir.pv_eq, P154_eq, Cmd.pv_eq, P32_eq, Word.pv_eq, GValue.pv_eq, P22_eq, Var.pv_eq, P52_eq, GEnv.pv_eq, eqT_3]
            exact ⟨(m16, IntKind.wrap .i64 (i13 + 1)), h, (Weak.norm (m := 0) (Nat.le_of_ble_eq_true rfl) ⟨rfl, rfl, rfl, rfl, rfl, rfl, trivial⟩ rfl rfl rfl), Nat.lt_succ_self _⟩
        · replace h := bif_f hb17 h
          refine AW.exit ?_
          refine AW.reg hS [(0, .pv (.slice (List.map GEnv.pv l1))), (9, .pv (.int .i64 (l1.length : Int))), (10, .pv (.int .i64 (IntKind.wrap .i64 (i4 + 1))))] [] ?_ ?_
          · simp -implicitDefEqProofs only [RUNS, qindex, Nat.reduceAdd, Nat.reduceLeDiff, Nat.reduceSub, reduceIte, Nat.reduceEqDiff, Nat.reduceLT, reduceCtorEq, Nat.reduceMul, Nat.reduceBEq, Int.reduceEq, if_true, if_false, eq_self, ne_eq, env_bT, T_3, P31_eq, Redir.pv_eq, P154_eq, Cmd.pv_eq, P32_eq, Word.pv_eq, GValue.pv_eq, P22_eq, Var.pv_eq, P52_eq, GEnv.pv_eq, eqT_3]
          exact ⟨(m7, IntKind.wrap .i64 (i4 + 1)), h, (Weak.norm (m := 0) (Nat.le_of_ble_eq_true rfl) ⟨rfl, rfl, rfl, trivial⟩ rfl rfl rfl), Nat.lt_succ_self _⟩
    · replace h := bif_f hb8 h
      refine AW.exit ?_
      refine AW.seq ?_
      refine AW.reg hS [(2, .pv (.bool true))] [] ?_ ?_
      · simp -implicitDefEqProofs only [RUNS, qindex, Nat.reduceAdd, Nat.reduceLeDiff, Nat.reduceSub, reduceIte, Nat.reduceEqDiff, Nat.reduceLT, reduceCtorEq, Nat.reduceMul, Nat.reduceBEq, Int.reduceEq, if_true, if_false, eq_self, ne_eq, env_bT, P31_eq, Redir.pv_eq, P154_eq, Cmd.pv_eq, P32_eq, Word.pv_eq, GValue.pv_eq, P22_eq, Var.pv_eq, P52_eq, GEnv.pv_eq]
      refine AW.ret ?_
      cases h
      show finish _ _ _ _ _ = _
      first | rfl | (simp [finish, resOf, renArgs, toPV, selObjs, sl])

set_option maxHeartbeats 4000000 in
theorem g_F15 {O : Orc} (hS : Sound env O) (hpf : O.pf = pfn) (w15 : Word → Int → Int → Option Int) (c_w15 : C_w15 w15 O) (w1 : Word) (left2 : Int) (deep3 : Int) (r4 : Int) (h : F15 w15 w1 left2 deep3 = some r4) : Good env 15 [.pv (.agg [.int .i64 w1.kind_, .str w1.text_, .str w1.quoted_, .slice (List.map Word.pv w1.words_), .slice (List.map Cmd.pv w1.cmd_)]), .pv (.int .i64 left2), .pv (.int .i64 deep3)] [] [.pv (.int .i64 r4)] [] := by
  have pf_15 : O.pf 15 = true := by rw [hpf]; rfl
  refine Good.start (fn := Tryd.f15) (N := 43) fn_15 rfl rfl (by simp) [] _ rfl rfl ?_
  rw [F15] at h
  refine AW.seq ?_
  refine AW.reg hS [(1, .pv (.int .i64 left2)), (2, .pv (.int .i64 deep3)), (3, .ref 0 0)] [.var [.pv (.int .i64 w1.kind_), .pv (.str w1.text_), .pv (.str w1.quoted_), .pv (.slice (List.map Word.pv w1.words_)), .pv (.slice (List.map Cmd.pv w1.cmd_))]] ?_ ?_
  · simp -implicitDefEqProofs only [RUNS, qindex, Nat.reduceAdd, Nat.reduceLeDiff, Nat.reduceSub, reduceIte, Nat.reduceEqDiff, Nat.reduceLT, reduceCtorEq, Nat.reduceMul, Nat.reduceBEq, Int.reduceEq, if_true, if_false, eq_self, ne_eq, env_bT, T_34, P31_eq, Redir.pv_eq, P154_eq, Cmd.pv_eq, P32_eq, Word.pv_eq, GValue.pv_eq, P22_eq, Var.pv_eq, P52_eq, GEnv.pv_eq]
  refine AW.seq ?_
  refine AW.reg hS [(1, .pv (.int .i64 (IntKind.wrap .i64 (left2 - (IntKind.wrap .i64 ((IntKind.wrap .i64 (1 + (IntKind.wrap .i64 (Int.tdiv (w1.text_.length : Int) 20)))) + (IntKind.wrap .i64 (Int.tdiv (w1.quoted_.length : Int) 20)))))))), (2, .pv (.int .i64 deep3)), (3, .ref 0 0)] [.var [.pv (.int .i64 w1.kind_), .pv (.str w1.text_), .pv (.str w1.quoted_), .pv (.slice (List.map Word.pv w1.words_)), .pv (.slice (List.map Cmd.pv w1.cmd_))]] ?_ ?_
  · simp -implicitDefEqProofs only [RUNS, qindex, Nat.reduceAdd, Nat.reduceLeDiff, Nat.reduceSub, reduceIte, Nat.reduceEqDiff, Nat.reduceLT, reduceCtorEq, Nat.reduceMul, Nat.reduceBEq, Int.reduceEq, if_true, if_false, eq_self, ne_eq, env_bT, T_3, T_9, T_34, P31_eq, Redir.pv_eq, P154_eq, Cmd.pv_eq, P32_eq, Word.pv_eq, GValue.pv_eq, P22_eq, Var.pv_eq, P52_eq, GEnv.pv_eq, eqT_3, (show ((20 : Int) = 0) = False from by decide)]
  refine AW.seq ?_
  refine AW.seq ?_
  refine AW.reg hS [(1, .pv (.int .i64 (IntKind.wrap .i64 (left2 - (IntKind.wrap .i64 ((IntKind.wrap .i64 (1 + (IntKind.wrap .i64 (Int.tdiv (w1.text_.length : Int) 20)))) + (IntKind.wrap .i64 (Int.tdiv (w1.quoted_.length : Int) 20)))))))), (2, .pv (.int .i64 deep3)), (3, .ref 0 0), (21, .pv (.bool (decide (deep3 < 1))))] [.var [.pv (.int .i64 w1.kind_), .pv (.str w1.text_), .pv (.str w1.quoted_), .pv (.slice (List.map Word.pv w1.words_)), .pv (.slice (List.map Cmd.pv w1.cmd_))]] ?_ ?_
  · simp -implicitDefEqProofs only [RUNS, qindex, Nat.reduceAdd, Nat.reduceLeDiff, Nat.reduceSub, reduceIte, Nat.reduceEqDiff, Nat.reduceLT, reduceCtorEq, Nat.reduceMul, Nat.reduceBEq, Int.reduceEq, if_true, if_false, eq_self, ne_eq, env_bT, T_3, P31_eq, Redir.pv_eq, P154_eq, Cmd.pv_eq, P32_eq, Word.pv_eq, GValue.pv_eq, P22_eq, Var.pv_eq, P52_eq, GEnv.pv_eq, eqT_3]
  refine AW.cond (b := decide (deep3 < 1)) rfl (fun hb5 => ?_) (fun hb5 => ?_)
  · replace h := bif_t hb5 h
    refine AW.seq ?_
    refine AW.reg hS [(6, .pv (.int .i64 (-1)))] [.var [.pv (.int .i64 w1.kind_), .pv (.str w1.text_), .pv (.str w1.quoted_), .pv (.slice (List.map Word.pv w1.words_)), .pv (.slice (List.map Cmd.pv w1.cmd_))]] ?_ ?_
    · simp -implicitDefEqProofs only [RUNS, qindex, Nat.reduceAdd, Nat.reduceLeDiff, Nat.reduceSub, reduceIte, Nat.reduceEqDiff, Nat.reduceLT, reduceCtorEq, Nat.reduceMul, Nat.reduceBEq, Int.reduceEq, if_true, if_false, eq_self, ne_eq, env_bT, P31_eq, Redir.pv_eq, P154_eq, Cmd.pv_eq, P32_eq, Word.pv_eq, GValue.pv_eq, P22_eq, Var.pv_eq, P52_eq, GEnv.pv_eq]
    refine AW.ret ?_
    cases h
    show finish _ _ _ _ _ = _
    first | rfl | (simp [finish, resOf, renArgs, toPV, selObjs, sl])
  · replace h := bif_f hb5 h
    refine AW.skip ?_
    refine AW.seq ?_
    refine AW.seq ?_
    refine AW.reg hS [(1, .pv (.int .i64 (IntKind.wrap .i64 (left2 - (IntKind.wrap .i64 ((IntKind.wrap .i64 (1 + (IntKind.wrap .i64 (Int.tdiv (w1.text_.length : Int) 20)))) + (IntKind.wrap .i64 (Int.tdiv (w1.quoted_.length : Int) 20)))))))), (2, .pv (.int .i64 deep3)), (3, .ref 0 0), (7, .pv (.int .i64 0))] [.var [.pv (.int .i64 w1.kind_), .pv (.str w1.text_), .pv (.str w1.quoted_), .pv (.slice (List.map Word.pv w1.words_)), .pv (.slice (List.map Cmd.pv w1.cmd_))]] ?_ ?_
    · simp -implicitDefEqProofs only [RUNS, qindex, Nat.reduceAdd, Nat.reduceLeDiff, Nat.reduceSub, reduceIte, Nat.reduceEqDiff, Nat.reduceLT, reduceCtorEq, Nat.reduceMul, Nat.reduceBEq, Int.reduceEq, if_true, if_false, eq_self, ne_eq, env_bT, P31_eq, Redir.pv_eq, P154_eq, Cmd.pv_eq, P32_eq, Word.pv_eq, GValue.pv_eq, P22_eq, Var.pv_eq, P52_eq, GEnv.pv_eq]
    refine AW.block ?_
    refine AW.weak (Weak.slots (L := [(1, .pv (.int .i64 (IntKind.wrap .i64 (left2 - (IntKind.wrap .i64 ((IntKind.wrap .i64 (1 + (IntKind.wrap .i64 (Int.tdiv (w1.text_.length : Int) 20)))) + (IntKind.wrap .i64 (Int.tdiv (w1.quoted_.length : Int) 20)))))))), (2, .pv (.int .i64 deep3)), (3, .ref 0 0), (7, .pv (.int .i64 0))]) ⟨rfl, rfl, rfl, rfl, trivial⟩) ?_
    refine AW.loopI (α := Nat × Int × Int) (fun (_, left6, i7) => ⟨sl [(1, .pv (.int .i64 left6)), (2, .pv (.int .i64 deep3)), (3, .ref 0 0), (7, .pv (.int .i64 i7))], 43, [.var [.pv (.int .i64 w1.kind_), .pv (.str w1.text_), .pv (.str w1.quoted_), .pv (.slice (List.map Word.pv w1.words_)), .pv (.slice (List.map Cmd.pv w1.cmd_))]]⟩) (fun x => iter (F15_b1 w1 w15 deep3) x.1 x.2 = some r4) (fun x => x.1) (BIG, (IntKind.wrap .i64 (left2 - (IntKind.wrap .i64 ((IntKind.wrap .i64 (1 + (IntKind.wrap .i64 (Int.tdiv (w1.text_.length : Int) 20)))) + (IntKind.wrap .i64 (Int.tdiv (w1.quoted_.length : Int) 20))))), 0)) h ?_
    clear h
    intro ⟨n18, left6, i7⟩ h
    replace h := iter_some h; obtain ⟨m10, rfl, h⟩ := h
    rw [F15_b1] at h
    try dsimp only at h
    show AW _ _ _ _ ⟨sl [(1, .pv (.int .i64 left6)), (2, .pv (.int .i64 deep3)), (3, .ref 0 0), (7, .pv (.int .i64 i7))], 43, [.var [.pv (.int .i64 w1.kind_), .pv (.str w1.text_), .pv (.str w1.quoted_), .pv (.slice (List.map Word.pv w1.words_)), .pv (.slice (List.map Cmd.pv w1.cmd_))]]⟩
    refine AW.seq ?_
    refine AW.seq ?_
    refine AW.reg hS [(1, .pv (.int .i64 left6)), (2, .pv (.int .i64 deep3)), (3, .ref 0 0), (7, .pv (.int .i64 i7)), (30, .pv (.bool (decide (i7 < (w1.words_.length : Int)) && decide (0 ≤ left6))))] [.var [.pv (.int .i64 w1.kind_), .pv (.str w1.text_), .pv (.str w1.quoted_), .pv (.slice (List.map Word.pv w1.words_)), .pv (.slice (List.map Cmd.pv w1.cmd_))]] ?_ ?_
    · clear h
      (simp -implicitDefEqProofs only [RUNS, qindex, Nat.reduceAdd, Nat.reduceLeDiff, Nat.reduceSub, reduceIte, Nat.reduceEqDiff, Nat.reduceLT, reduceCtorEq, Nat.reduceMul, Nat.reduceBEq, Int.reduceEq, if_true, if_false, eq_self, ne_eq, env_bT, T_3, T_31, T_34, P31_eq, Redir.pv_eq, P154_eq, Cmd.pv_eq, P32_eq, Word.pv_eq, GValue.pv_eq, P22_eq, Var.pv_eq, P52_eq, GEnv.pv_eq, eqT_3]); repeat' (split <;> rename_i hb <;> (try simp only [HBS, ge_iff_le, gt_iff_lt] at hb) <;> simp -implicitDefEqProofs only [RUNS, qindex, Nat.reduceAdd, Nat.reduceLeDiff, Nat.reduceSub, reduceIte, Nat.reduceEqDiff, Nat.reduceLT, reduceCtorEq, Nat.reduceMul, Nat.reduceBEq, Int.reduceEq, if_true, if_false, eq_self, ne_eq, env_bT, T_3, T_31, T_34, P31_eq, Redir.pv_eq, P154_eq, Cmd.pv_eq, P32_eq, Word.pv_eq, GValue.pv_eq, P22_eq, Var.pv_eq, P52_eq, GEnv.pv_eq, eqT_3, *, decide_true, decide_false, Decidable.not_not, not_false_eq_true, not_true_eq_false])
      all_goals (first | (simp only [BOOLS]; done) | (simp [*]; done) | ((try simp only [CLOS, beq_iff_eq, bne_iff_ne, ne_eq] at *) <;> omega) | (simp_all; done) | (simp_all <;> omega))
    refine AW.cond (b := (decide (i7 < (w1.words_.length : Int)) && decide (0 ≤ left6))) rfl (fun hb11 => ?_) (fun hb11 => ?_)
    · replace h := bif_t hb11 h
      refine AW.skip ?_
      refine AW.seq ?_
      refine AW.block ?_
      replace h := Option.bind_eq_some_iff.1 h; obtain ⟨u12, q13, h⟩ := h
      have f14 := lidx_f q13
      replace h := Option.bind_eq_some_iff.1 h; obtain ⟨r15, q16, h⟩ := h
      have f17 := c_w15 u12 left6 (IntKind.wrap .i64 (deep3 - 1)) r15 q16
      try dsimp only at f17
      refine AW.reg hS [(1, .pv (.int .i64 r15)), (2, .pv (.int .i64 deep3)), (3, .ref 0 0), (7, .pv (.int .i64 i7))] [.var [.pv (.int .i64 w1.kind_), .pv (.str w1.text_), .pv (.str w1.quoted_), .pv (.slice (List.map Word.pv w1.words_)), .pv (.slice (List.map Cmd.pv w1.cmd_))]] ?_ ?_
      · simp -implicitDefEqProofs only [RUNS, qindex, Nat.reduceAdd, Nat.reduceLeDiff, Nat.reduceSub, reduceIte, Nat.reduceEqDiff, Nat.reduceLT, reduceCtorEq, Nat.reduceMul, Nat.reduceBEq, Int.reduceEq, if_true, if_false, eq_self, ne_eq, env_bT, T_3, T_31, T_34, P31_eq, Redir.pv_eq, P154_eq, Cmd.pv_eq, P32_eq, Word.pv_eq, GValue.pv_eq, P22_eq, Var.pv_eq, P52_eq, GEnv.pv_eq, f14.1, f14.2.1, eqT_3, pf_15, f17]
      refine AW.reg hS [(1, .pv (.int .i64 r15)), (2, .pv (.int .i64 deep3)), (3, .ref 0 0), (7, .pv (.int .i64 (IntKind.wrap .i64 (i7 + 1))))] [.var [.pv (.int .i64 w1.kind_), .pv (.str w1.text_), .pv (.str w1.quoted_), .pv (.slice (List.map Word.pv w1.words_)), .pv (.slice (List.map Cmd.pv w1.cmd_))]] ?_ ?_
      · simp -implicitDefEqProofs only [RUNS, qindex, Nat.reduceAdd, Nat.reduceLeDiff, Nat.reduceSub, reduceIte, Nat.reduceEqDiff, Nat.reduceLT, reduceCtorEq, Nat.reduceMul, Nat.reduceBEq, Int.reduceEq, if_true, if_false, eq_self, ne_eq, env_bT, T_3, P31_eq, Redir.pv_eq, P154_eq, Cmd.pv_eq, P32_eq, Word.pv_eq, GValue.pv_eq, P22_eq, Var.pv_eq, P52_eq, GEnv.pv_eq, eqT_3]
      exact ⟨(m10, (r15, IntKind.wrap .i64 (i7 + 1))), h, (Weak.norm (m := 1) (Nat.le_of_ble_eq_true rfl) ⟨rfl, rfl, rfl, rfl, trivial⟩ rfl rfl rfl), Nat.lt_succ_self _⟩
    · replace h := bif_f hb11 h
      refine AW.exit ?_
      refine AW.seq ?_
      refine AW.reg hS [(6, .pv (.int .i64 left6))] [.var [.pv (.int .i64 w1.kind_), .pv (.str w1.text_), .pv (.str w1.quoted_), .pv (.slice (List.map Word.pv w1.words_)), .pv (.slice (List.map Cmd.pv w1.cmd_))]] ?_ ?_
      · simp -implicitDefEqProofs only [RUNS, qindex, Nat.reduceAdd, Nat.reduceLeDiff, Nat.reduceSub, reduceIte, Nat.reduceEqDiff, Nat.reduceLT, reduceCtorEq, Nat.reduceMul, Nat.reduceBEq, Int.reduceEq, if_true, if_false, eq_self, ne_eq, env_bT, P31_eq, Redir.pv_eq, P154_eq, Cmd.pv_eq, P32_eq, Word.pv_eq, GValue.pv_eq, P22_eq, Var.pv_eq, P52_eq, GEnv.pv_eq]
      refine AW.ret ?_
      cases h
      show finish _ _ _ _ _ = _
      first | rfl | (simp [finish, resOf, renArgs, toPV, selObjs, sl])

set_option maxHeartbeats 4000000 in
theorem g_F26 {O : Orc} (hS : Sound env O) (hpf : O.pf = pfn) (values1 : List Str) (r2 : Str) (r3 : Int) (h : F26 values1 = some (r2, r3)) : Good env 26 [.pv (.slice (List.map PV.str values1))] [] [.pv (.str r2), .pv (.int .i64 r3)] [] := by
  refine Good.start (fn := Tryd.f26) (N := 49) fn_26 rfl rfl (by simp) [] _ rfl rfl ?_
  rw [F26] at h
  refine AW.seq ?_
  refine AW.reg hS [(0, .pv (.slice (List.map PV.str values1)))] [] ?_ ?_
  · simp -implicitDefEqProofs only [RUNS, qindex, Nat.reduceAdd, Nat.reduceLeDiff, Nat.reduceSub, reduceIte, Nat.reduceEqDiff, Nat.reduceLT, reduceCtorEq, Nat.reduceMul, Nat.reduceBEq, Int.reduceEq, if_true, if_false, eq_self, ne_eq, env_bT, P31_eq, Redir.pv_eq, P154_eq, Cmd.pv_eq, P32_eq, Word.pv_eq, GValue.pv_eq, P22_eq, Var.pv_eq, P52_eq, GEnv.pv_eq]
  refine AW.seq ?_
  refine AW.seq ?_
  refine AW.reg hS [(0, .pv (.slice (List.map PV.str values1))), (9, .pv (.bool (decide ((values1.length : Int) = 0))))] [] ?_ ?_
  · simp -implicitDefEqProofs only [RUNS, qindex, Nat.reduceAdd, Nat.reduceLeDiff, Nat.reduceSub, reduceIte, Nat.reduceEqDiff, Nat.reduceLT, reduceCtorEq, Nat.reduceMul, Nat.reduceBEq, Int.reduceEq, if_true, if_false, eq_self, ne_eq, env_bT, T_3, T_9, T_22, P31_eq, Redir.pv_eq, P154_eq, Cmd.pv_eq, P32_eq, Word.pv_eq, GValue.pv_eq, P22_eq, Var.pv_eq, P52_eq, GEnv.pv_eq, eqT_3]
  refine AW.cond (b := decide ((values1.length : Int) = 0)) rfl (fun hb4 => ?_) (fun hb4 => ?_)
  · replace h := bif_t hb4 h
    refine AW.seq ?_
    refine AW.reg hS [(2, .pv (.str [])), (3, .pv (.int .i64 1))] [] ?_ ?_
    · simp -implicitDefEqProofs only [RUNS, qindex, Nat.reduceAdd, Nat.reduceLeDiff, Nat.reduceSub, reduceIte, Nat.reduceEqDiff, Nat.reduceLT, reduceCtorEq, Nat.reduceMul, Nat.reduceBEq, Int.reduceEq, if_true, if_false, eq_self, ne_eq, env_bT, P31_eq, Redir.pv_eq, P154_eq, Cmd.pv_eq, P32_eq, Word.pv_eq, GValue.pv_eq, P22_eq, Var.pv_eq, P52_eq, GEnv.pv_eq]
    refine AW.ret ?_
    cases h
    show finish _ _ _ _ _ = _
    first | rfl | (simp [finish, resOf, renArgs, toPV, selObjs, sl])
  · replace h := bif_f hb4 h
    refine AW.skip ?_
    refine AW.seq ?_
    refine AW.seq ?_
    refine AW.reg hS [(0, .pv (.slice (List.map PV.str values1))), (12, .pv (.bool (decide (256 < (values1.length : Int)))))] [] ?_ ?_
    · simp -implicitDefEqProofs only [RUNS, qindex, Nat.reduceAdd, Nat.reduceLeDiff, Nat.reduceSub, reduceIte, Nat.reduceEqDiff, Nat.reduceLT, reduceCtorEq, Nat.reduceMul, Nat.reduceBEq, Int.reduceEq, if_true, if_false, eq_self, ne_eq, env_bT, T_3, T_9, T_22, P31_eq, Redir.pv_eq, P154_eq, Cmd.pv_eq, P32_eq, Word.pv_eq, GValue.pv_eq, P22_eq, Var.pv_eq, P52_eq, GEnv.pv_eq, eqT_3]
    refine AW.cond (b := decide (256 < (values1.length : Int))) rfl (fun hb5 => ?_) (fun hb5 => ?_)
    · replace h := bif_t hb5 h
      refine AW.seq ?_
      refine AW.reg hS [(2, .pv (.str [])), (3, .pv (.int .i64 22))] [] ?_ ?_
      · simp -implicitDefEqProofs only [RUNS, qindex, Nat.reduceAdd, Nat.reduceLeDiff, Nat.reduceSub, reduceIte, Nat.reduceEqDiff, Nat.reduceLT, reduceCtorEq, Nat.reduceMul, Nat.reduceBEq, Int.reduceEq, if_true, if_false, eq_self, ne_eq, env_bT, P31_eq, Redir.pv_eq, P154_eq, Cmd.pv_eq, P32_eq, Word.pv_eq, GValue.pv_eq, P22_eq, Var.pv_eq, P52_eq, GEnv.pv_eq]
      refine AW.ret ?_
      cases h
      show finish _ _ _ _ _ = _
      first | rfl | (simp [finish, resOf, renArgs, toPV, selObjs, sl])
    · replace h := bif_f hb5 h
      refine AW.skip ?_
      refine AW.seq ?_
      refine AW.reg hS [(0, .pv (.slice (List.map PV.str values1))), (4, .pv (.str []))] [] ?_ ?_
      · simp -implicitDefEqProofs only [RUNS, qindex, Nat.reduceAdd, Nat.reduceLeDiff, Nat.reduceSub, reduceIte, Nat.reduceEqDiff, Nat.reduceLT, reduceCtorEq, Nat.reduceMul, Nat.reduceBEq, Int.reduceEq, if_true, if_false, eq_self, ne_eq, env_bT, P31_eq, Redir.pv_eq, P154_eq, Cmd.pv_eq, P32_eq, Word.pv_eq, GValue.pv_eq, P22_eq, Var.pv_eq, P52_eq, GEnv.pv_eq]
      refine AW.seq ?_
      refine AW.seq ?_
      refine AW.reg hS [(0, .pv (.slice (List.map PV.str values1))), (4, .pv (.str [])), (5, .pv (.int .i64 0))] [] ?_ ?_
      · simp -implicitDefEqProofs only [RUNS, qindex, Nat.reduceAdd, Nat.reduceLeDiff, Nat.reduceSub, reduceIte, Nat.reduceEqDiff, Nat.reduceLT, reduceCtorEq, Nat.reduceMul, Nat.reduceBEq, Int.reduceEq, if_true, if_false, eq_self, ne_eq, env_bT, P31_eq, Redir.pv_eq, P154_eq, Cmd.pv_eq, P32_eq, Word.pv_eq, GValue.pv_eq, P22_eq, Var.pv_eq, P52_eq, GEnv.pv_eq]
      refine AW.block ?_
      refine AW.weak (Weak.slots (L := [(0, .pv (.slice (List.map PV.str values1))), (4, .pv (.str [])), (5, .pv (.int .i64 0))]) ⟨rfl, rfl, rfl, trivial⟩) ?_
      refine AW.loopI (α := Nat × Str × Int) (fun (_, s6, i7) => ⟨sl [(0, .pv (.slice (List.map PV.str values1))), (4, .pv (.str s6)), (5, .pv (.int .i64 i7))], 49, []⟩) (fun x => iter (F26_b2 values1) x.1 x.2 = some (r2, r3)) (fun x => x.1) (BIG, ([], 0)) h ?_
      clear h
      intro ⟨n36, s6, i7⟩ h
      replace h := iter_some h; obtain ⟨m10, rfl, h⟩ := h
      rw [F26_b2] at h
      try dsimp only at h
      show AW _ _ _ _ ⟨sl [(0, .pv (.slice (List.map PV.str values1))), (4, .pv (.str s6)), (5, .pv (.int .i64 i7))], 49, []⟩
      refine AW.seq ?_
      refine AW.seq ?_
      refine AW.reg hS [(0, .pv (.slice (List.map PV.str values1))), (4, .pv (.str s6)), (5, .pv (.int .i64 i7)), (16, .pv (.bool (decide (i7 < (values1.length : Int)))))] [] ?_ ?_
      · simp -implicitDefEqProofs only [RUNS, qindex, Nat.reduceAdd, Nat.reduceLeDiff, Nat.reduceSub, reduceIte, Nat.reduceEqDiff, Nat.reduceLT, reduceCtorEq, Nat.reduceMul, Nat.reduceBEq, Int.reduceEq, if_true, if_false, eq_self, ne_eq, env_bT, T_3, T_9, T_22, P31_eq, Redir.pv_eq, P154_eq, Cmd.pv_eq, P32_eq, Word.pv_eq, GValue.pv_eq, P22_eq, Var.pv_eq, P52_eq, GEnv.pv_eq, eqT_3]
      refine AW.cond (b := decide (i7 < (values1.length : Int))) rfl (fun hb11 => ?_) (fun hb11 => ?_)
      · replace h := bif_t hb11 h
        refine AW.skip ?_
        refine AW.seq ?_
        refine AW.block ?_
        refine AW.seq ?_
        refine AW.seq ?_
        refine AW.reg hS [(0, .pv (.slice (List.map PV.str values1))), (4, .pv (.str s6)), (5, .pv (.int .i64 i7)), (6, .pv (.int .i64 0))] [] ?_ ?_
        · simp -implicitDefEqProofs only [RUNS, qindex, Nat.reduceAdd, Nat.reduceLeDiff, Nat.reduceSub, reduceIte, Nat.reduceEqDiff, Nat.reduceLT, reduceCtorEq, Nat.reduceMul, Nat.reduceBEq, Int.reduceEq, if_true, if_false, eq_self, ne_eq, env_bT, P31_eq, Redir.pv_eq, P154_eq, Cmd.pv_eq, P32_eq, Word.pv_eq, GValue.pv_eq, P22_eq, Var.pv_eq, P52_eq, GEnv.pv_eq]
        refine AW.block ?_
        refine AW.weak (Weak.slots (L := [(0, .pv (.slice (List.map PV.str values1))), (4, .pv (.str s6)), (5, .pv (.int .i64 i7)), (6, .pv (.int .i64 0))]) ⟨rfl, rfl, rfl, rfl, trivial⟩) ?_
        refine AW.loopI (α := Nat × Int) (fun (_, k12) => ⟨sl [(0, .pv (.slice (List.map PV.str values1))), (4, .pv (.str s6)), (5, .pv (.int .i64 i7)), (6, .pv (.int .i64 k12))], 49, []⟩) (fun x => iter (F26_b3 values1 i7 s6 (iter (F26_b2 values1) m10)) x.1 x.2 = some (r2, r3)) (fun x => x.1) (BIG, 0) h ?_
        clear h
        intro ⟨n34, k12⟩ h
        replace h := iter_some h; obtain ⟨m15, rfl, h⟩ := h
        rw [F26_b3] at h
        try dsimp only at h
        show AW _ _ _ _ ⟨sl [(0, .pv (.slice (List.map PV.str values1))), (4, .pv (.str s6)), (5, .pv (.int .i64 i7)), (6, .pv (.int .i64 k12))], 49, []⟩
        refine AW.seq ?_
        refine AW.seq ?_
        replace h := Option.bind_eq_some_iff.1 h; obtain ⟨w16, q17, h⟩ := h
        have f18 := lidx_f q17
        refine AW.reg hS [(0, .pv (.slice (List.map PV.str values1))), (4, .pv (.str s6)), (5, .pv (.int .i64 i7)), (6, .pv (.int .i64 k12)), (25, .pv (.bool (decide (k12 < (w16.length : Int)))))] [] ?_ ?_
        · simp -implicitDefEqProofs only [RUNS, qindex, Nat.reduceAdd, Nat.reduceLeDiff, Nat.reduceSub, reduceIte, Nat.reduceEqDiff, Nat.reduceLT, reduceCtorEq, Nat.reduceMul, Nat.reduceBEq, Int.reduceEq, if_true, if_false, eq_self, ne_eq, env_bT, T_3, T_9, T_22, P31_eq, Redir.pv_eq, P154_eq, Cmd.pv_eq, P32_eq, Word.pv_eq, GValue.pv_eq, P22_eq, Var.pv_eq, P52_eq, GEnv.pv_eq, f18.1, f18.2.1, eqT_3]
        refine AW.cond (b := decide (k12 < (w16.length : Int))) rfl (fun hb19 => ?_) (fun hb19 => ?_)
        · replace h := bif_t hb19 h
          refine AW.skip ?_
          refine AW.seq ?_
          refine AW.block ?_
          refine AW.seq ?_
          replace h := Option.bind_eq_some_iff.1 h; obtain ⟨c20, q21, h⟩ := h
          have f22 := sidx_f q21
          refine AW.reg hS [(0, .pv (.slice (List.map PV.str values1))), (4, .pv (.str s6)), (5, .pv (.int .i64 i7)), (6, .pv (.int .i64 k12)), (34, .pv (.bool (decide (c20 = 0))))] [] ?_ ?_
          · simp -implicitDefEqProofs only [RUNS, qindex, Nat.reduceAdd, Nat.reduceLeDiff, Nat.reduceSub, reduceIte, Nat.reduceEqDiff, Nat.reduceLT, reduceCtorEq, Nat.reduceMul, Nat.reduceBEq, Int.reduceEq, if_true, if_false, eq_self, ne_eq, env_bT, T_5, T_9, T_22, P31_eq, Redir.pv_eq, P154_eq, Cmd.pv_eq, P32_eq, Word.pv_eq, GValue.pv_eq, P22_eq, Var.pv_eq, P52_eq, GEnv.pv_eq, f18.1, f18.2.1, f22.1, f22.2.1, f22.2.2, eqT_5]
          refine AW.cond (b := decide (c20 = 0)) rfl (fun hb23 => ?_) (fun hb23 => ?_)
          · replace h := bif_t hb23 h
            refine AW.seq ?_
            refine AW.reg hS [(2, .pv (.str [])), (3, .pv (.int .i64 2))] [] ?_ ?_
            · simp -implicitDefEqProofs only [RUNS, qindex, Nat.reduceAdd, Nat.reduceLeDiff, Nat.reduceSub, reduceIte, Nat.reduceEqDiff, Nat.reduceLT, reduceCtorEq, Nat.reduceMul, Nat.reduceBEq, Int.reduceEq, if_true, if_false, eq_self, ne_eq, env_bT, P31_eq, Redir.pv_eq, P154_eq, Cmd.pv_eq, P32_eq, Word.pv_eq, GValue.pv_eq, P22_eq, Var.pv_eq, P52_eq, GEnv.pv_eq]
            refine AW.ret ?_
            cases h
            show finish _ _ _ _ _ = _
            first | rfl | (simp [finish, resOf, renArgs, toPV, selObjs, sl])
          · replace h := bif_f hb23 h
            refine AW.skip ?_
            refine AW.reg hS [(0, .pv (.slice (List.map PV.str values1))), (4, .pv (.str s6)), (5, .pv (.int .i64 i7)), (6, .pv (.int .i64 (IntKind.wrap .i64 (k12 + 1))))] [] ?_ ?_
            · simp -implicitDefEqProofs only [RUNS, qindex, Nat.reduceAdd, Nat.reduceLeDiff, Nat.reduceSub, reduceIte, Nat.reduceEqDiff, Nat.reduceLT, reduceCtorEq, Nat.reduceMul, Nat.reduceBEq, Int.reduceEq, if_true, if_false, eq_self, ne_eq, env_bT, T_3, P31_eq, Redir.pv_eq, P154_eq, Cmd.pv_eq, P32_eq, Word.pv_eq, GValue.pv_eq, P22_eq, Var.pv_eq, P52_eq, GEnv.pv_eq, eqT_3]
            exact ⟨(m15, IntKind.wrap .i64 (k12 + 1)), h, (Weak.norm (m := 0) (Nat.le_of_ble_eq_true rfl) ⟨rfl, rfl, rfl, rfl, trivial⟩ rfl rfl rfl), Nat.lt_succ_self _⟩
        · replace h := bif_f hb19 h
          refine AW.exit ?_
          refine AW.seq ?_
          refine AW.seq ?_
          refine AW.reg hS [(0, .pv (.slice (List.map PV.str values1))), (4, .pv (.str s6)), (5, .pv (.int .i64 i7)), (36, .pv (.bool (decide (0 < i7))))] [] ?_ ?_
          · simp -implicitDefEqProofs only [RUNS, qindex, Nat.reduceAdd, Nat.reduceLeDiff, Nat.reduceSub, reduceIte, Nat.reduceEqDiff, Nat.reduceLT, reduceCtorEq, Nat.reduceMul, Nat.reduceBEq, Int.reduceEq, if_true, if_false, eq_self, ne_eq, env_bT, T_3, P31_eq, Redir.pv_eq, P154_eq, Cmd.pv_eq, P32_eq, Word.pv_eq, GValue.pv_eq, P22_eq, Var.pv_eq, P52_eq, GEnv.pv_eq, eqT_3]
          refine AW.cond (b := decide (0 < i7)) rfl (fun hb24 => ?_) (fun hb24 => ?_)
          · replace h := bif_t hb24 h
            replace h := Option.bind_eq_some_iff.1 h; obtain ⟨s25, q26, h⟩ := h
            have f27 := catO_f q26
            try simp only [List.length_cons, List.length_nil, Nat.zero_add, Nat.reduceAdd, Nat.reduceLeDiff, Nat.add_zero, Nat.reduceMul] at f27
            refine AW.reg hS [(0, .pv (.slice (List.map PV.str values1))), (4, .pv (.str s25)), (5, .pv (.int .i64 i7))] [] ?_ ?_
            · simp -implicitDefEqProofs only [RUNS, qindex, Nat.reduceAdd, Nat.reduceLeDiff, Nat.reduceSub, reduceIte, Nat.reduceEqDiff, Nat.reduceLT, reduceCtorEq, Nat.reduceMul, Nat.reduceBEq, Int.reduceEq, if_true, if_false, eq_self, ne_eq, env_bT, T_9, P31_eq, Redir.pv_eq, P154_eq, Cmd.pv_eq, P32_eq, Word.pv_eq, GValue.pv_eq, P22_eq, Var.pv_eq, P52_eq, GEnv.pv_eq, eqT_9, f27.1, f27.2]
            replace h := Option.bind_eq_some_iff.1 h; obtain ⟨s28, q29, h⟩ := h
            have f30 := catO_f q29
            try simp only [List.length_cons, List.length_nil, Nat.zero_add, Nat.reduceAdd, Nat.reduceLeDiff, Nat.add_zero, Nat.reduceMul] at f30
            refine AW.reg hS [(0, .pv (.slice (List.map PV.str values1))), (4, .pv (.str s28)), (5, .pv (.int .i64 i7))] [] ?_ ?_
            · simp -implicitDefEqProofs only [RUNS, qindex, Nat.reduceAdd, Nat.reduceLeDiff, Nat.reduceSub, reduceIte, Nat.reduceEqDiff, Nat.reduceLT, reduceCtorEq, Nat.reduceMul, Nat.reduceBEq, Int.reduceEq, if_true, if_false, eq_self, ne_eq, env_bT, T_9, T_22, P31_eq, Redir.pv_eq, P154_eq, Cmd.pv_eq, P32_eq, Word.pv_eq, GValue.pv_eq, P22_eq, Var.pv_eq, P52_eq, GEnv.pv_eq, f18.1, f18.2.1, eqT_9, f30.1, f30.2]
            refine AW.reg hS [(0, .pv (.slice (List.map PV.str values1))), (4, .pv (.str s28)), (5, .pv (.int .i64 (IntKind.wrap .i64 (i7 + 1))))] [] ?_ ?_
            · simp -implicitDefEqProofs only [RUNS, qindex, Nat.reduceAdd, Nat.reduceLeDiff, Nat.reduceSub, reduceIte, Nat.reduceEqDiff, Nat.reduceLT, reduceCtorEq, Nat.reduceMul, Nat.reduceBEq, Int.reduceEq, if_true, if_false, eq_self, ne_eq, env_bT, T_3, P31_eq, Redir.pv_eq, P154_eq, Cmd.pv_eq, P32_eq, Word.pv_eq, GValue.pv_eq, P22_eq, Var.pv_eq, P52_eq, GEnv.pv_eq, eqT_3]
            exact ⟨(m10, (s28, IntKind.wrap .i64 (i7 + 1))), h, (Weak.norm (m := 0) (Nat.le_of_ble_eq_true rfl) ⟨rfl, rfl, rfl, trivial⟩ rfl rfl rfl), Nat.lt_succ_self _⟩
          · replace h := bif_f hb24 h
            refine AW.skip ?_
            replace h := Option.bind_eq_some_iff.1 h; obtain ⟨s31, q32, h⟩ := h
            have f33 := catO_f q32
            try simp only [List.length_cons, List.length_nil, Nat.zero_add, Nat.reduceAdd, Nat.reduceLeDiff, Nat.add_zero, Nat.reduceMul] at f33
            refine AW.reg hS [(0, .pv (.slice (List.map PV.str values1))), (4, .pv (.str s31)), (5, .pv (.int .i64 i7))] [] ?_ ?_
            · simp -implicitDefEqProofs only [RUNS, qindex, Nat.reduceAdd, Nat.reduceLeDiff, Nat.reduceSub, reduceIte, Nat.reduceEqDiff, Nat.reduceLT, reduceCtorEq, Nat.reduceMul, Nat.reduceBEq, Int.reduceEq, if_true, if_false, eq_self, ne_eq, env_bT, T_9, T_22, P31_eq, Redir.pv_eq, P154_eq, Cmd.pv_eq, P32_eq, Word.pv_eq, GValue.pv_eq, P22_eq, Var.pv_eq, P52_eq, GEnv.pv_eq, f18.1, f18.2.1, eqT_9, f33.1, f33.2]
            refine AW.reg hS [(0, .pv (.slice (List.map PV.str values1))), (4, .pv (.str s31)), (5, .pv (.int .i64 (IntKind.wrap .i64 (i7 + 1))))] [] ?_ ?_
            · simp -implicitDefEqProofs only [RUNS, qindex, Nat.reduceAdd, Nat.reduceLeDiff, Nat.reduceSub, reduceIte, Nat.reduceEqDiff, Nat.reduceLT, reduceCtorEq, Nat.reduceMul, Nat.reduceBEq, Int.reduceEq, if_true, if_false, eq_self, ne_eq, env_bT, T_3, P31_eq, Redir.pv_eq, P154_eq, Cmd.pv_eq, P32_eq, Word.pv_eq, GValue.pv_eq, P22_eq, Var.pv_eq, P52_eq, GEnv.pv_eq, eqT_3]
            exact ⟨(m10, (s31, IntKind.wrap .i64 (i7 + 1))), h, (Weak.norm (m := 0) (Nat.le_of_ble_eq_true rfl) ⟨rfl, rfl, rfl, trivial⟩ rfl rfl rfl), Nat.lt_succ_self _⟩
      · replace h := bif_f hb11 h
        refine AW.exit ?_
        refine AW.seq ?_
        refine AW.seq ?_
        refine AW.reg hS [(4, .pv (.str s6)), (47, .pv (.bool (decide (65536 < (s6.length : Int)))))] [] ?_ ?_
        · simp -implicitDefEqProofs only [RUNS, qindex, Nat.reduceAdd, Nat.reduceLeDiff, Nat.reduceSub, reduceIte, Nat.reduceEqDiff, Nat.reduceLT, reduceCtorEq, Nat.reduceMul, Nat.reduceBEq, Int.reduceEq, if_true, if_false, eq_self, ne_eq, env_bT, T_3, T_9, P31_eq, Redir.pv_eq, P154_eq, Cmd.pv_eq, P32_eq, Word.pv_eq, GValue.pv_eq, P22_eq, Var.pv_eq, P52_eq, GEnv.pv_eq, eqT_3]
        refine AW.cond (b := decide (65536 < (s6.length : Int))) rfl (fun hb35 => ?_) (fun hb35 => ?_)
        · replace h := bif_t hb35 h
          refine AW.seq ?_
          refine AW.reg hS [(2, .pv (.str [])), (3, .pv (.int .i64 4))] [] ?_ ?_
          · simp -implicitDefEqProofs only [RUNS, qindex, Nat.reduceAdd, Nat.reduceLeDiff, Nat.reduceSub, reduceIte, Nat.reduceEqDiff, Nat.reduceLT, reduceCtorEq, Nat.reduceMul, Nat.reduceBEq, Int.reduceEq, if_true, if_false, eq_self, ne_eq, env_bT, P31_eq, Redir.pv_eq, P154_eq, Cmd.pv_eq, P32_eq, Word.pv_eq, GValue.pv_eq, P22_eq, Var.pv_eq, P52_eq, GEnv.pv_eq]
          refine AW.ret ?_
          cases h
          show finish _ _ _ _ _ = _
          first | rfl | (simp [finish, resOf, renArgs, toPV, selObjs, sl])
        · replace h := bif_f hb35 h
          refine AW.skip ?_
          refine AW.seq ?_
          refine AW.reg hS [(2, .pv (.str s6)), (3, .pv (.int .i64 0))] [] ?_ ?_
          · simp -implicitDefEqProofs only [RUNS, qindex, Nat.reduceAdd, Nat.reduceLeDiff, Nat.reduceSub, reduceIte, Nat.reduceEqDiff, Nat.reduceLT, reduceCtorEq, Nat.reduceMul, Nat.reduceBEq, Int.reduceEq, if_true, if_false, eq_self, ne_eq, env_bT, P31_eq, Redir.pv_eq, P154_eq, Cmd.pv_eq, P32_eq, Word.pv_eq, GValue.pv_eq, P22_eq, Var.pv_eq, P52_eq, GEnv.pv_eq]
          refine AW.ret ?_
          cases h
          show finish _ _ _ _ _ = _
          first | rfl | (simp [finish, resOf, renArgs, toPV, selObjs, sl])

set_option maxHeartbeats 4000000 in
theorem g_F27 {O : Orc} (hS : Sound env O) (hpf : O.pf = pfn) (name1 : Str) (r2 : Bool) (h : F27 name1 = some r2) : Good env 27 [.pv (.str name1)] [] [.pv (.bool r2)] [] := by
  refine Good.start (fn := Tryd.f27) (N := 42) fn_27 rfl rfl (by simp) [] _ rfl rfl ?_
  rw [F27] at h
  refine AW.seq ?_
  refine AW.reg hS [(0, .pv (.str name1))] [] ?_ ?_
  · simp -implicitDefEqProofs only [RUNS, qindex, Nat.reduceAdd, Nat.reduceLeDiff, Nat.reduceSub, reduceIte, Nat.reduceEqDiff, Nat.reduceLT, reduceCtorEq, Nat.reduceMul, Nat.reduceBEq, Int.reduceEq, if_true, if_false, eq_self, ne_eq, env_bT, P31_eq, Redir.pv_eq, P154_eq, Cmd.pv_eq, P32_eq, Word.pv_eq, GValue.pv_eq, P22_eq, Var.pv_eq, P52_eq, GEnv.pv_eq]
  refine AW.seq ?_
  refine AW.seq ?_
  refine AW.reg hS [(0, .pv (.str name1)), (3, .pv (.int .i64 0))] [] ?_ ?_
  · simp -implicitDefEqProofs only [RUNS, qindex, Nat.reduceAdd, Nat.reduceLeDiff, Nat.reduceSub, reduceIte, Nat.reduceEqDiff, Nat.reduceLT, reduceCtorEq, Nat.reduceMul, Nat.reduceBEq, Int.reduceEq, if_true, if_false, eq_self, ne_eq, env_bT, P31_eq, Redir.pv_eq, P154_eq, Cmd.pv_eq, P32_eq, Word.pv_eq, GValue.pv_eq, P22_eq, Var.pv_eq, P52_eq, GEnv.pv_eq]
  refine AW.block ?_
  refine AW.weak (Weak.slots (L := [(0, .pv (.str name1)), (3, .pv (.int .i64 0))]) ⟨rfl, rfl, trivial⟩) ?_
  refine AW.loopI (α := Nat × Int) (fun (_, i3) => ⟨sl [(0, .pv (.str name1)), (3, .pv (.int .i64 i3))], 42, []⟩) (fun x => iter (F27_b1 name1) x.1 x.2 = some r2) (fun x => x.1) (BIG, 0) h ?_
  clear h
  intro ⟨n12, i3⟩ h
  replace h := iter_some h; obtain ⟨m6, rfl, h⟩ := h
  rw [F27_b1] at h
  try dsimp only at h
  show AW _ _ _ _ ⟨sl [(0, .pv (.str name1)), (3, .pv (.int .i64 i3))], 42, []⟩
  refine AW.seq ?_
  refine AW.seq ?_
  refine AW.reg hS [(0, .pv (.str name1)), (3, .pv (.int .i64 i3)), (7, .pv (.bool (decide (i3 < (name1.length : Int)))))] [] ?_ ?_
  · simp -implicitDefEqProofs only [RUNS, qindex, Nat.reduceAdd, Nat.reduceLeDiff, Nat.reduceSub, reduceIte, Nat.reduceEqDiff, Nat.reduceLT, reduceCtorEq, Nat.reduceMul, Nat.reduceBEq, Int.reduceEq, if_true, if_false, eq_self, ne_eq, env_bT, T_3, T_9, P31_eq, Redir.pv_eq, P154_eq, Cmd.pv_eq, P32_eq, Word.pv_eq, GValue.pv_eq, P22_eq, Var.pv_eq, P52_eq, GEnv.pv_eq, eqT_3]
  refine AW.cond (b := decide (i3 < (name1.length : Int))) rfl (fun hb7 => ?_) (fun hb7 => ?_)
  · replace h := bif_t hb7 h
    refine AW.skip ?_
    refine AW.seq ?_
    refine AW.block ?_
    refine AW.seq ?_
    replace h := Option.bind_eq_some_iff.1 h; obtain ⟨c8, q9, h⟩ := h
    have f10 := sidx_f q9
    refine AW.reg hS [(0, .pv (.str name1)), (3, .pv (.int .i64 i3)), (25, .pv (.bool ((decide (c8 < 33) || decide (126 < c8)) || decide (c8 = 47))))] [] ?_ ?_
    · clear h
      (simp -implicitDefEqProofs only [RUNS, qindex, Nat.reduceAdd, Nat.reduceLeDiff, Nat.reduceSub, reduceIte, Nat.reduceEqDiff, Nat.reduceLT, reduceCtorEq, Nat.reduceMul, Nat.reduceBEq, Int.reduceEq, if_true, if_false, eq_self, ne_eq, env_bT, T_5, T_9, P31_eq, Redir.pv_eq, P154_eq, Cmd.pv_eq, P32_eq, Word.pv_eq, GValue.pv_eq, P22_eq, Var.pv_eq, P52_eq, GEnv.pv_eq, f10.1, f10.2.1, f10.2.2, eqT_5]); repeat' (split <;> rename_i hb <;> (try simp only [HBS, ge_iff_le, gt_iff_lt] at hb) <;> simp -implicitDefEqProofs only [RUNS, qindex, Nat.reduceAdd, Nat.reduceLeDiff, Nat.reduceSub, reduceIte, Nat.reduceEqDiff, Nat.reduceLT, reduceCtorEq, Nat.reduceMul, Nat.reduceBEq, Int.reduceEq, if_true, if_false, eq_self, ne_eq, env_bT, T_5, T_9, P31_eq, Redir.pv_eq, P154_eq, Cmd.pv_eq, P32_eq, Word.pv_eq, GValue.pv_eq, P22_eq, Var.pv_eq, P52_eq, GEnv.pv_eq, f10.1, f10.2.1, f10.2.2, eqT_5, *, decide_true, decide_false, Decidable.not_not, not_false_eq_true, not_true_eq_false])
      all_goals (first | (simp only [BOOLS]; done) | (simp [*]; done) | ((try simp only [CLOS, beq_iff_eq, bne_iff_ne, ne_eq] at *) <;> omega) | (simp_all; done) | (simp_all <;> omega))
    refine AW.cond (b := ((decide (c8 < 33) || decide (126 < c8)) || decide (c8 = 47))) rfl (fun hb11 => ?_) (fun hb11 => ?_)
    · replace h := bif_t hb11 h
      refine AW.seq ?_
      refine AW.reg hS [(2, .pv (.bool false))] [] ?_ ?_
      · simp -implicitDefEqProofs only [RUNS, qindex, Nat.reduceAdd, Nat.reduceLeDiff, Nat.reduceSub, reduceIte, Nat.reduceEqDiff, Nat.reduceLT, reduceCtorEq, Nat.reduceMul, Nat.reduceBEq, Int.reduceEq, if_true, if_false, eq_self, ne_eq, env_bT, P31_eq, Redir.pv_eq, P154_eq, Cmd.pv_eq, P32_eq, Word.pv_eq, GValue.pv_eq, P22_eq, Var.pv_eq, P52_eq, GEnv.pv_eq]
      refine AW.ret ?_
      cases h
      show finish _ _ _ _ _ = _
      first | rfl | (simp [finish, resOf, renArgs, toPV, selObjs, sl])
    · replace h := bif_f hb11 h
      refine AW.skip ?_
      refine AW.reg hS [(0, .pv (.str name1)), (3, .pv (.int .i64 (IntKind.wrap .i64 (i3 + 1))))] [] ?_ ?_
      · simp -implicitDefEqProofs only [RUNS, qindex, Nat.reduceAdd, Nat.reduceLeDiff, Nat.reduceSub, reduceIte, Nat.reduceEqDiff, Nat.reduceLT, reduceCtorEq, Nat.reduceMul, Nat.reduceBEq, Int.reduceEq, if_true, if_false, eq_self, ne_eq, env_bT, T_3, P31_eq, Redir.pv_eq, P154_eq, Cmd.pv_eq, P32_eq, Word.pv_eq, GValue.pv_eq, P22_eq, Var.pv_eq, P52_eq, GEnv.pv_eq, eqT_3]
      exact ⟨(m6, IntKind.wrap .i64 (i3 + 1)), h, (Weak.norm (m := 0) (Nat.le_of_ble_eq_true rfl) ⟨rfl, rfl, trivial⟩ rfl rfl rfl), Nat.lt_succ_self _⟩
  · replace h := bif_f hb7 h
    refine AW.exit ?_
    refine AW.seq ?_
    refine AW.reg hS [(2, .pv (.bool (((decide (1 ≤ (name1.length : Int)) && decide ((name1.length : Int) ≤ 64)) && !decide (name1 = [46])) && !decide (name1 = [46, 46]))))] [] ?_ ?_
    · clear h
      (simp -implicitDefEqProofs only [RUNS, qindex, Nat.reduceAdd, Nat.reduceLeDiff, Nat.reduceSub, reduceIte, Nat.reduceEqDiff, Nat.reduceLT, reduceCtorEq, Nat.reduceMul, Nat.reduceBEq, Int.reduceEq, if_true, if_false, eq_self, ne_eq, env_bT, T_3, T_9, P31_eq, Redir.pv_eq, P154_eq, Cmd.pv_eq, P32_eq, Word.pv_eq, GValue.pv_eq, P22_eq, Var.pv_eq, P52_eq, GEnv.pv_eq, eqT_3, eqT_9]); repeat' (split <;> rename_i hb <;> (try simp only [HBS, ge_iff_le, gt_iff_lt] at hb) <;> simp -implicitDefEqProofs only [RUNS, qindex, Nat.reduceAdd, Nat.reduceLeDiff, Nat.reduceSub, reduceIte, Nat.reduceEqDiff, Nat.reduceLT, reduceCtorEq, Nat.reduceMul, Nat.reduceBEq, Int.reduceEq, if_true, if_false, eq_self, ne_eq, env_bT, T_3, T_9, P31_eq, Redir.pv_eq, P154_eq, Cmd.pv_eq, P32_eq, Word.pv_eq, GValue.pv_eq, P22_eq, Var.pv_eq, P52_eq, GEnv.pv_eq, eqT_3, eqT_9, *, decide_true, decide_false, Decidable.not_not, not_false_eq_true, not_true_eq_false])
      all_goals (first | (simp only [BOOLS]; done) | (simp [*]; done) | ((try simp only [CLOS, beq_iff_eq, bne_iff_ne, ne_eq] at *) <;> omega) | (simp_all; done) | (simp_all <;> omega))
    refine AW.ret ?_
    cases h
    show finish _ _ _ _ _ = _
    first | rfl | (simp [finish, resOf, renArgs, toPV, selObjs, sl])

end Go.Abs.U50
