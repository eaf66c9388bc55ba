/- The layer 47 laws: the functions walked. -/
import Derived.Test.YtdmihmnegakgbaaDoorD1
set_option linter.unusedVariables false
set_option linter.unusedSimpArgs false
set_option maxRecDepth 8000
namespace Go.Abs.U47
open Go.RowKit Go.Proofs

set_option maxHeartbeats 4000000 in
theorem g_F26 {O : Orc} (hS : Sound env O) (hpf : O.pf = pfn) (c_F41 : C_F41 O) (c_F27 : C_F27 O) (s1 : Str) (at2 : Int) (r3 : Bool) (h : F26 s1 at2 = some r3) : Good env 26 [.pv (.str s1), .pv (.int .i64 at2)] [] [.pv (.bool r3)] [] := by
  have pf_27 : O.pf 27 = true := by rw [hpf]; rfl
  have pf_41 : O.pf 41 = true := by rw [hpf]; rfl
  refine Good.start (fn := Tryd.f26) (N := 22) fn_26 rfl rfl (by simp) [] _ rfl rfl ?_
  rw [F26] at h
  refine AW.seq ?_
  refine AW.reg hS [(0, .pv (.str s1)), (1, .pv (.int .i64 at2))] [] ?_ ?_
  · simp -implicitDefEqProofs only [RUNS, qindex, Nat.reduceAdd, Nat.reduceLeDiff, Nat.reduceSub, reduceIte, Nat.reduceEqDiff, Nat.reduceLT, reduceCtorEq, Nat.reduceMul, Nat.reduceBEq, Int.reduceEq, if_true, if_false, eq_self, ne_eq, env_bT, Token.pv_eq]
  refine AW.seq ?_
  replace h := Option.bind_eq_some_iff.1 h; obtain ⟨r4, q5, h⟩ := h
  have f6 := fun hg => c_F41 s1 at2 r4 (guardO_t q5 hg)
  try dsimp only at f6
  replace h := Option.bind_eq_some_iff.1 h; obtain ⟨c7, q8, h⟩ := h
  have f9 := sidx_g (guardO_t q8)
  replace h := Option.bind_eq_some_iff.1 h; obtain ⟨r10, q11, h⟩ := h
  have f12 := fun hg => c_F27 c7 [10, 59, 38, 124, 40, 41, 123, 125, 60, 62, 61, 94, 96, 36, 39] r10 (guardO_t q11 hg)
  try dsimp only at f12
  try simp only [List.map_cons, List.map_nil, Token.pv_eq] at f12
  refine AW.reg hS [(4, .pv (.bool ((decide (at2 < (s1.length : Int)) && decide (r4 = 0)) && !r10)))] [] ?_ ?_
  · clear h
    (simp -implicitDefEqProofs only [RUNS, qindex, Nat.reduceAdd, Nat.reduceLeDiff, Nat.reduceSub, reduceIte, Nat.reduceEqDiff, Nat.reduceLT, reduceCtorEq, Nat.reduceMul, Nat.reduceBEq, Int.reduceEq, if_true, if_false, eq_self, ne_eq, env_bT, T_3, T_5, T_9, Token.pv_eq, eqT_3, pf_41, f6, f9.1, f9.2.1, f9.2.2, pf_27, f12]); repeat' (split <;> rename_i hb <;> (try simp only [HBS, ge_iff_le, gt_iff_lt] at hb) <;> simp -implicitDefEqProofs only [RUNS, qindex, Nat.reduceAdd, Nat.reduceLeDiff, Nat.reduceSub, reduceIte, Nat.reduceEqDiff, Nat.reduceLT, reduceCtorEq, Nat.reduceMul, Nat.reduceBEq, Int.reduceEq, if_true, if_false, eq_self, ne_eq, env_bT, T_3, T_5, T_9, Token.pv_eq, eqT_3, pf_41, f6, f9.1, f9.2.1, f9.2.2, pf_27, f12, *, decide_true, decide_false, Decidable.not_not, not_false_eq_true, not_true_eq_false])
    all_goals (first | (simp only [BOOLS]; done) | (simp [*]; done) | ((try simp only [CLOS, beq_iff_eq, bne_iff_ne, ne_eq] at *) <;> omega) | (simp_all; done) | (simp_all <;> omega))
  refine AW.ret ?_
  cases h
  show finish _ _ _ _ _ = _
  first | rfl | (simp [finish, resOf, renArgs, toPV, selObjs, sl])

set_option maxHeartbeats 4000000 in
theorem g_F13 {O : Orc} (hS : Sound env O) (hpf : O.pf = pfn) (c_F26 : C_F26 O) (c_F27 : C_F27 O) (s1 : Str) (r2 : Bool) (h : F13 s1 = some r2) : Good env 13 [.pv (.str s1)] [] [.pv (.bool r2)] [] := by
  have pf_26 : O.pf 26 = true := by rw [hpf]; rfl
  have pf_27 : O.pf 27 = true := by rw [hpf]; rfl
  refine Good.start (fn := Tryd.f13) (N := 28) fn_13 rfl rfl (by simp) [] _ rfl rfl ?_
  rw [F13] at h
  refine AW.seq ?_
  refine AW.reg hS [(0, .pv (.str s1))] [] ?_ ?_
  · simp -implicitDefEqProofs only [RUNS, qindex, Nat.reduceAdd, Nat.reduceLeDiff, Nat.reduceSub, reduceIte, Nat.reduceEqDiff, Nat.reduceLT, reduceCtorEq, Nat.reduceMul, Nat.reduceBEq, Int.reduceEq, if_true, if_false, eq_self, ne_eq, env_bT, Token.pv_eq]
  refine AW.seq ?_
  refine AW.seq ?_
  refine AW.reg hS [(0, .pv (.str s1)), (3, .pv (.int .i64 0))] [] ?_ ?_
  · simp -implicitDefEqProofs only [RUNS, qindex, Nat.reduceAdd, Nat.reduceLeDiff, Nat.reduceSub, reduceIte, Nat.reduceEqDiff, Nat.reduceLT, reduceCtorEq, Nat.reduceMul, Nat.reduceBEq, Int.reduceEq, if_true, if_false, eq_self, ne_eq, env_bT, Token.pv_eq]
  refine AW.block ?_
  refine AW.weak (Weak.slots (L := [(0, .pv (.str s1)), (3, .pv (.int .i64 0))]) ⟨rfl, rfl, trivial⟩) ?_
  refine AW.loopI (α := Nat × Int) (fun (_, i3) => ⟨sl [(0, .pv (.str s1)), (3, .pv (.int .i64 i3))], 28, []⟩) (fun x => iter (F13_b1 s1) x.1 x.2 = some r2) (fun x => x.1) (BIG, 0) h ?_
  clear h
  intro ⟨n24, i3⟩ h
  replace h := iter_some h; obtain ⟨m6, rfl, h⟩ := h
  rw [F13_b1] at h
  try dsimp only at h
  show AW _ _ _ _ ⟨sl [(0, .pv (.str s1)), (3, .pv (.int .i64 i3))], 28, []⟩
  refine AW.seq ?_
  refine AW.seq ?_
  refine AW.reg hS [(0, .pv (.str s1)), (3, .pv (.int .i64 i3)), (7, .pv (.bool (decide (i3 < (s1.length : Int)))))] [] ?_ ?_
  · simp -implicitDefEqProofs only [RUNS, qindex, Nat.reduceAdd, Nat.reduceLeDiff, Nat.reduceSub, reduceIte, Nat.reduceEqDiff, Nat.reduceLT, reduceCtorEq, Nat.reduceMul, Nat.reduceBEq, Int.reduceEq, if_true, if_false, eq_self, ne_eq, env_bT, T_3, T_9, Token.pv_eq, eqT_3]
  refine AW.cond (b := decide (i3 < (s1.length : Int))) rfl (fun hb7 => ?_) (fun hb7 => ?_)
  · replace h := bif_t hb7 h
    refine AW.skip ?_
    refine AW.seq ?_
    refine AW.block ?_
    refine AW.seq ?_
    replace h := Option.bind_eq_some_iff.1 h; obtain ⟨r8, q9, h⟩ := h
    have f10 := c_F26 s1 i3 r8 q9
    try dsimp only at f10
    replace h := Option.bind_eq_some_iff.1 h; obtain ⟨c11, q12, h⟩ := h
    have f13 := sidx_g (guardO_t q12)
    replace h := Option.bind_eq_some_iff.1 h; obtain ⟨r14, q15, h⟩ := h
    have f16 := fun hg => c_F27 c11 [92, 42, 63, 91] r14 (guardO_t q15 hg)
    try dsimp only at f16
    try simp only [List.map_cons, List.map_nil, Token.pv_eq] at f16
    refine AW.reg hS [(0, .pv (.str s1)), (3, .pv (.int .i64 i3)), (19, .pv (.bool (!r8 || r14)))] [] ?_ ?_
    · clear h
      (simp -implicitDefEqProofs only [RUNS, qindex, Nat.reduceAdd, Nat.reduceLeDiff, Nat.reduceSub, reduceIte, Nat.reduceEqDiff, Nat.reduceLT, reduceCtorEq, Nat.reduceMul, Nat.reduceBEq, Int.reduceEq, if_true, if_false, eq_self, ne_eq, env_bT, T_3, T_5, T_9, Token.pv_eq, pf_26, f10, f13.1, f13.2.1, f13.2.2, pf_27, f16]); repeat' (split <;> rename_i hb <;> (try simp only [HBS, ge_iff_le, gt_iff_lt] at hb) <;> simp -implicitDefEqProofs only [RUNS, qindex, Nat.reduceAdd, Nat.reduceLeDiff, Nat.reduceSub, reduceIte, Nat.reduceEqDiff, Nat.reduceLT, reduceCtorEq, Nat.reduceMul, Nat.reduceBEq, Int.reduceEq, if_true, if_false, eq_self, ne_eq, env_bT, T_3, T_5, T_9, Token.pv_eq, pf_26, f10, f13.1, f13.2.1, f13.2.2, pf_27, f16, *, decide_true, decide_false, Decidable.not_not, not_false_eq_true, not_true_eq_false])
      all_goals (first | (simp only [BOOLS]; done) | (simp [*]; done) | ((try simp only [CLOS, beq_iff_eq, bne_iff_ne, ne_eq] at *) <;> omega) | (simp_all; done) | (simp_all <;> omega))
    refine AW.cond (b := (!r8 || r14)) rfl (fun hb17 => ?_) (fun hb17 => ?_)
    · replace h := bif_t hb17 h
      refine AW.seq ?_
      refine AW.reg hS [(2, .pv (.bool false))] [] ?_ ?_
      · simp -implicitDefEqProofs only [RUNS, qindex, Nat.reduceAdd, Nat.reduceLeDiff, Nat.reduceSub, reduceIte, Nat.reduceEqDiff, Nat.reduceLT, reduceCtorEq, Nat.reduceMul, Nat.reduceBEq, Int.reduceEq, if_true, if_false, eq_self, ne_eq, env_bT, Token.pv_eq]
      refine AW.ret ?_
      cases h
      show finish _ _ _ _ _ = _
      first | rfl | (simp [finish, resOf, renArgs, toPV, selObjs, sl])
    · replace h := bif_f hb17 h
      refine AW.skip ?_
      refine AW.reg hS [(0, .pv (.str s1)), (3, .pv (.int .i64 (IntKind.wrap .i64 (i3 + 1))))] [] ?_ ?_
      · simp -implicitDefEqProofs only [RUNS, qindex, Nat.reduceAdd, Nat.reduceLeDiff, Nat.reduceSub, reduceIte, Nat.reduceEqDiff, Nat.reduceLT, reduceCtorEq, Nat.reduceMul, Nat.reduceBEq, Int.reduceEq, if_true, if_false, eq_self, ne_eq, env_bT, T_3, Token.pv_eq, eqT_3]
      exact ⟨(m6, IntKind.wrap .i64 (i3 + 1)), h, (Weak.norm (m := 0) (Nat.le_of_ble_eq_true rfl) ⟨rfl, rfl, trivial⟩ rfl rfl rfl), Nat.lt_succ_self _⟩
  · replace h := bif_f hb7 h
    refine AW.exit ?_
    refine AW.seq ?_
    replace h := Option.bind_eq_some_iff.1 h; obtain ⟨c18, q19, h⟩ := h
    have f20 := sidx_g (guardO_t q19)
    replace h := Option.bind_eq_some_iff.1 h; obtain ⟨r21, q22, h⟩ := h
    have f23 := fun hg => c_F27 c18 [35, 33, 64] r21 (guardO_t q22 hg)
    try dsimp only at f23
    try simp only [List.map_cons, List.map_nil, Token.pv_eq] at f23
    refine AW.reg hS [(2, .pv (.bool (!decide (s1 = []) && !r21)))] [] ?_ ?_
    · clear h
      (simp -implicitDefEqProofs only [RUNS, qindex, Nat.reduceAdd, Nat.reduceLeDiff, Nat.reduceSub, reduceIte, Nat.reduceEqDiff, Nat.reduceLT, reduceCtorEq, Nat.reduceMul, Nat.reduceBEq, Int.reduceEq, if_true, if_false, eq_self, ne_eq, env_bT, T_5, T_9, Token.pv_eq, eqT_9, f20.1, f20.2.1, f20.2.2, pf_27, f23]); repeat' (split <;> rename_i hb <;> (try simp only [HBS, ge_iff_le, gt_iff_lt] at hb) <;> simp -implicitDefEqProofs only [RUNS, qindex, Nat.reduceAdd, Nat.reduceLeDiff, Nat.reduceSub, reduceIte, Nat.reduceEqDiff, Nat.reduceLT, reduceCtorEq, Nat.reduceMul, Nat.reduceBEq, Int.reduceEq, if_true, if_false, eq_self, ne_eq, env_bT, T_5, T_9, Token.pv_eq, eqT_9, f20.1, f20.2.1, f20.2.2, pf_27, f23, *, decide_true, decide_false, Decidable.not_not, not_false_eq_true, not_true_eq_false])
      all_goals (first | (simp only [BOOLS]; done) | (simp [*]; done) | ((try simp only [CLOS, beq_iff_eq, bne_iff_ne, ne_eq] at *) <;> omega) | (simp_all; done) | (simp_all <;> omega))
    refine AW.ret ?_
    cases h
    show finish _ _ _ _ _ = _
    first | rfl | (simp [finish, resOf, renArgs, toPV, selObjs, sl])

set_option maxHeartbeats 4000000 in
theorem g_F11 {O : Orc} (hS : Sound env O) (hpf : O.pf = pfn) (c_F13 : C_F13 O) (s1 : Str) (r2 : Str) (h : F11 s1 = some r2) : Good env 11 [.pv (.str s1)] [] [.pv (.str r2)] [] := by
  have pf_13 : O.pf 13 = true := by rw [hpf]; rfl
  refine Good.start (fn := Tryd.f11) (N := 29) fn_11 rfl rfl (by simp) [] _ rfl rfl ?_
  rw [F11] at h
  refine AW.seq ?_
  refine AW.reg hS [(0, .pv (.str s1))] [] ?_ ?_
  · simp -implicitDefEqProofs only [RUNS, qindex, Nat.reduceAdd, Nat.reduceLeDiff, Nat.reduceSub, reduceIte, Nat.reduceEqDiff, Nat.reduceLT, reduceCtorEq, Nat.reduceMul, Nat.reduceBEq, Int.reduceEq, if_true, if_false, eq_self, ne_eq, env_bT, Token.pv_eq]
  refine AW.seq ?_
  refine AW.seq ?_
  replace h := Option.bind_eq_some_iff.1 h; obtain ⟨r3, q4, h⟩ := h
  have f5 := c_F13 s1 r3 q4
  try dsimp only at f5
  refine AW.reg hS [(0, .pv (.str s1)), (6, .pv (.bool r3))] [] ?_ ?_
  · simp -implicitDefEqProofs only [RUNS, qindex, Nat.reduceAdd, Nat.reduceLeDiff, Nat.reduceSub, reduceIte, Nat.reduceEqDiff, Nat.reduceLT, reduceCtorEq, Nat.reduceMul, Nat.reduceBEq, Int.reduceEq, if_true, if_false, eq_self, ne_eq, env_bT, T_9, Token.pv_eq, pf_13, f5]
  refine AW.cond (b := r3) rfl (fun hb6 => ?_) (fun hb6 => ?_)
  · replace h := bif_t hb6 h
    refine AW.seq ?_
    refine AW.reg hS [(2, .pv (.str s1))] [] ?_ ?_
    · simp -implicitDefEqProofs only [RUNS, qindex, Nat.reduceAdd, Nat.reduceLeDiff, Nat.reduceSub, reduceIte, Nat.reduceEqDiff, Nat.reduceLT, reduceCtorEq, Nat.reduceMul, Nat.reduceBEq, Int.reduceEq, if_true, if_false, eq_self, ne_eq, env_bT, Token.pv_eq]
    refine AW.ret ?_
    cases h
    show finish _ _ _ _ _ = _
    first | rfl | (simp [finish, resOf, renArgs, toPV, selObjs, sl])
  · replace h := bif_f hb6 h
    refine AW.skip ?_
    refine AW.seq ?_
    refine AW.reg hS [(0, .pv (.str s1)), (3, .pv (.str [39]))] [] ?_ ?_
    · simp -implicitDefEqProofs only [RUNS, qindex, Nat.reduceAdd, Nat.reduceLeDiff, Nat.reduceSub, reduceIte, Nat.reduceEqDiff, Nat.reduceLT, reduceCtorEq, Nat.reduceMul, Nat.reduceBEq, Int.reduceEq, if_true, if_false, eq_self, ne_eq, env_bT, Token.pv_eq]
    refine AW.seq ?_
    refine AW.seq ?_
    refine AW.reg hS [(0, .pv (.str s1)), (3, .pv (.str [39])), (4, .pv (.int .i64 0))] [] ?_ ?_
    · simp -implicitDefEqProofs only [RUNS, qindex, Nat.reduceAdd, Nat.reduceLeDiff, Nat.reduceSub, reduceIte, Nat.reduceEqDiff, Nat.reduceLT, reduceCtorEq, Nat.reduceMul, Nat.reduceBEq, Int.reduceEq, if_true, if_false, eq_self, ne_eq, env_bT, Token.pv_eq]
    refine AW.block ?_
    refine AW.weak (Weak.slots (L := [(0, .pv (.str s1)), (3, .pv (.str [39])), (4, .pv (.int .i64 0))]) ⟨rfl, rfl, rfl, trivial⟩) ?_
    refine AW.loopI (α := Nat × Str × Int) (fun (_, out7, i8) => ⟨sl [(0, .pv (.str s1)), (3, .pv (.str out7)), (4, .pv (.int .i64 i8))], 29, []⟩) (fun x => iter (F11_b1 s1) x.1 x.2 = some r2) (fun x => x.1) (BIG, ([39], 0)) h ?_
    clear h
    intro ⟨n29, out7, i8⟩ h
    replace h := iter_some h; obtain ⟨m11, rfl, h⟩ := h
    rw [F11_b1] at h
    try dsimp only at h
    show AW _ _ _ _ ⟨sl [(0, .pv (.str s1)), (3, .pv (.str out7)), (4, .pv (.int .i64 i8))], 29, []⟩
    refine AW.seq ?_
    refine AW.seq ?_
    refine AW.reg hS [(0, .pv (.str s1)), (3, .pv (.str out7)), (4, .pv (.int .i64 i8)), (11, .pv (.bool (decide (i8 < (s1.length : Int)))))] [] ?_ ?_
    · simp -implicitDefEqProofs only [RUNS, qindex, Nat.reduceAdd, Nat.reduceLeDiff, Nat.reduceSub, reduceIte, Nat.reduceEqDiff, Nat.reduceLT, reduceCtorEq, Nat.reduceMul, Nat.reduceBEq, Int.reduceEq, if_true, if_false, eq_self, ne_eq, env_bT, T_3, T_9, Token.pv_eq, eqT_3]
    refine AW.cond (b := decide (i8 < (s1.length : Int))) rfl (fun hb12 => ?_) (fun hb12 => ?_)
    · replace h := bif_t hb12 h
      refine AW.skip ?_
      refine AW.seq ?_
      refine AW.block ?_
      refine AW.seq ?_
      replace h := Option.bind_eq_some_iff.1 h; obtain ⟨t13, q14, h⟩ := h
      have f15 := sslice_f q14
      have f15e := f15.2.2.2.2
      try simp only [Int.toNat_natCast, Int.toNat_zero, List.drop_zero] at f15e
      have f15l := f15.2.2.1
      try simp only [Int.toNat_natCast, Int.toNat_zero] at f15l
      replace h := Option.bind_eq_some_iff.1 h; obtain ⟨s16, q17, h⟩ := h
      have f18 := catO_f q17
      try simp only [List.length_cons, List.length_nil, Nat.zero_add, Nat.reduceAdd, Nat.reduceLeDiff, Nat.add_zero, Nat.reduceMul] at f18
      refine AW.reg hS [(0, .pv (.str s1)), (3, .pv (.str s16)), (4, .pv (.int .i64 i8))] [] ?_ ?_
      · simp -implicitDefEqProofs only [RUNS, qindex, Nat.reduceAdd, Nat.reduceLeDiff, Nat.reduceSub, reduceIte, Nat.reduceEqDiff, Nat.reduceLT, reduceCtorEq, Nat.reduceMul, Nat.reduceBEq, Int.reduceEq, if_true, if_false, eq_self, ne_eq, env_bT, T_3, T_9, Token.pv_eq, eqT_3, f15.1, f15.2.1, f15l, f15.2.2.2.1, f15e, Int.toNat_natCast, Int.toNat_zero, eqT_9, f18.1, f18.2]
      refine AW.seq ?_
      replace h := Option.bind_eq_some_iff.1 h; obtain ⟨c19, q20, h⟩ := h
      have f21 := sidx_f q20
      refine AW.reg hS [(0, .pv (.str s1)), (3, .pv (.str s16)), (4, .pv (.int .i64 i8)), (24, .pv (.bool (decide (c19 = 39))))] [] ?_ ?_
      · simp -implicitDefEqProofs only [RUNS, qindex, Nat.reduceAdd, Nat.reduceLeDiff, Nat.reduceSub, reduceIte, Nat.reduceEqDiff, Nat.reduceLT, reduceCtorEq, Nat.reduceMul, Nat.reduceBEq, Int.reduceEq, if_true, if_false, eq_self, ne_eq, env_bT, T_5, T_9, Token.pv_eq, f21.1, f21.2.1, f21.2.2, eqT_5]
      refine AW.cond (b := decide (c19 = 39)) rfl (fun hb22 => ?_) (fun hb22 => ?_)
      · replace h := bif_t hb22 h
        replace h := Option.bind_eq_some_iff.1 h; obtain ⟨s23, q24, h⟩ := h
        have f25 := catO_f q24
        try simp only [List.length_cons, List.length_nil, Nat.zero_add, Nat.reduceAdd, Nat.reduceLeDiff, Nat.add_zero, Nat.reduceMul] at f25
        refine AW.reg hS [(0, .pv (.str s1)), (3, .pv (.str s23)), (4, .pv (.int .i64 i8))] [] ?_ ?_
        · simp -implicitDefEqProofs only [RUNS, qindex, Nat.reduceAdd, Nat.reduceLeDiff, Nat.reduceSub, reduceIte, Nat.reduceEqDiff, Nat.reduceLT, reduceCtorEq, Nat.reduceMul, Nat.reduceBEq, Int.reduceEq, if_true, if_false, eq_self, ne_eq, env_bT, T_9, Token.pv_eq, eqT_9, f25.1, f25.2]
        refine AW.reg hS [(0, .pv (.str s1)), (3, .pv (.str s23)), (4, .pv (.int .i64 (IntKind.wrap .i64 (i8 + 1))))] [] ?_ ?_
        · simp -implicitDefEqProofs only [RUNS, qindex, Nat.reduceAdd, Nat.reduceLeDiff, Nat.reduceSub, reduceIte, Nat.reduceEqDiff, Nat.reduceLT, reduceCtorEq, Nat.reduceMul, Nat.reduceBEq, Int.reduceEq, if_true, if_false, eq_self, ne_eq, env_bT, T_3, Token.pv_eq, eqT_3]
        exact ⟨(m11, (s23, IntKind.wrap .i64 (i8 + 1))), h, (Weak.norm (m := 0) (Nat.le_of_ble_eq_true rfl) ⟨rfl, rfl, rfl, trivial⟩ rfl rfl rfl), Nat.lt_succ_self _⟩
      · replace h := bif_f hb22 h
        refine AW.skip ?_
        refine AW.reg hS [(0, .pv (.str s1)), (3, .pv (.str s16)), (4, .pv (.int .i64 (IntKind.wrap .i64 (i8 + 1))))] [] ?_ ?_
        · simp -implicitDefEqProofs only [RUNS, qindex, Nat.reduceAdd, Nat.reduceLeDiff, Nat.reduceSub, reduceIte, Nat.reduceEqDiff, Nat.reduceLT, reduceCtorEq, Nat.reduceMul, Nat.reduceBEq, Int.reduceEq, if_true, if_false, eq_self, ne_eq, env_bT, T_3, Token.pv_eq, eqT_3]
        exact ⟨(m11, (s16, IntKind.wrap .i64 (i8 + 1))), h, (Weak.norm (m := 0) (Nat.le_of_ble_eq_true rfl) ⟨rfl, rfl, rfl, trivial⟩ rfl rfl rfl), Nat.lt_succ_self _⟩
    · replace h := bif_f hb12 h
      refine AW.exit ?_
      refine AW.seq ?_
      replace h := Option.bind_eq_some_iff.1 h; obtain ⟨s26, q27, h⟩ := h
      have f28 := catO_f q27
      try simp only [List.length_cons, List.length_nil, Nat.zero_add, Nat.reduceAdd, Nat.reduceLeDiff, Nat.add_zero, Nat.reduceMul] at f28
      refine AW.reg hS [(2, .pv (.str s26))] [] ?_ ?_
      · simp -implicitDefEqProofs only [RUNS, qindex, Nat.reduceAdd, Nat.reduceLeDiff, Nat.reduceSub, reduceIte, Nat.reduceEqDiff, Nat.reduceLT, reduceCtorEq, Nat.reduceMul, Nat.reduceBEq, Int.reduceEq, if_true, if_false, eq_self, ne_eq, env_bT, T_9, Token.pv_eq, eqT_9, f28.1, f28.2]
      refine AW.ret ?_
      cases h
      show finish _ _ _ _ _ = _
      first | rfl | (simp [finish, resOf, renArgs, toPV, selObjs, sl])

set_option maxHeartbeats 4000000 in
theorem g_F3 {O : Orc} (hS : Sound env O) (hpf : O.pf = pfn) (c_F8 : C_F8 O) (c_F9 : C_F9 O) (c_F10 : C_F10 O) (c_F11 : C_F11 O) (c_F12 : C_F12 O) (c_F13 : C_F13 O) (s1 : Str) (r2 : Bool) (h : F3 s1 = some r2) : Good env 3 [.pv (.str s1)] [] [.pv (.bool r2)] [] := by
  have pf_8 : O.pf 8 = true := by rw [hpf]; rfl
  have pf_9 : O.pf 9 = true := by rw [hpf]; rfl
  have pf_10 : O.pf 10 = true := by rw [hpf]; rfl
  have pf_11 : O.pf 11 = true := by rw [hpf]; rfl
  have pf_12 : O.pf 12 = true := by rw [hpf]; rfl
  have pf_13 : O.pf 13 = true := by rw [hpf]; rfl
  refine Good.start (fn := Tryd.f3) (N := 95) fn_3 rfl rfl (by simp) [] _ rfl rfl ?_
  rw [F3] at h
  refine AW.seq ?_
  refine AW.reg hS [(0, .pv (.str s1))] [] ?_ ?_
  · simp -implicitDefEqProofs only [RUNS, qindex, Nat.reduceAdd, Nat.reduceLeDiff, Nat.reduceSub, reduceIte, Nat.reduceEqDiff, Nat.reduceLT, reduceCtorEq, Nat.reduceMul, Nat.reduceBEq, Int.reduceEq, if_true, if_false, eq_self, ne_eq, env_bT, Token.pv_eq]
  refine AW.seq ?_
  refine AW.seq ?_
  refine AW.reg hS [(0, .pv (.str s1)), (11, .pv (.bool (decide (1000 < (s1.length : Int)))))] [] ?_ ?_
  · simp -implicitDefEqProofs only [RUNS, qindex, Nat.reduceAdd, Nat.reduceLeDiff, Nat.reduceSub, reduceIte, Nat.reduceEqDiff, Nat.reduceLT, reduceCtorEq, Nat.reduceMul, Nat.reduceBEq, Int.reduceEq, if_true, if_false, eq_self, ne_eq, env_bT, T_3, T_9, Token.pv_eq, eqT_3]
  refine AW.cond (b := decide (1000 < (s1.length : Int))) rfl (fun hb3 => ?_) (fun hb3 => ?_)
  · replace h := bif_t hb3 h
    refine AW.seq ?_
    replace h := Option.bind_eq_some_iff.1 h; obtain ⟨r4, q5, h⟩ := h
    have f6 := c_F8 r4 q5
    try dsimp only at f6
    refine AW.reg hS [(2, .pv (.bool r4))] [] ?_ ?_
    · simp -implicitDefEqProofs only [RUNS, qindex, Nat.reduceAdd, Nat.reduceLeDiff, Nat.reduceSub, reduceIte, Nat.reduceEqDiff, Nat.reduceLT, reduceCtorEq, Nat.reduceMul, Nat.reduceBEq, Int.reduceEq, if_true, if_false, eq_self, ne_eq, env_bT, Token.pv_eq, pf_8, f6]
    refine AW.ret ?_
    cases h
    show finish _ _ _ _ _ = _
    first | rfl | (simp [finish, resOf, renArgs, toPV, selObjs, sl])
  · replace h := bif_f hb3 h
    refine AW.skip ?_
    refine AW.seq ?_
    replace h := Option.bind_eq_some_iff.1 h; obtain ⟨r7, q8, h⟩ := h
    have f9 := c_F9 s1 r7 q8
    try dsimp only at f9
    refine AW.reg hS [(0, .pv (.str s1)), (3, .pv (.str r7))] [] ?_ ?_
    · simp -implicitDefEqProofs only [RUNS, qindex, Nat.reduceAdd, Nat.reduceLeDiff, Nat.reduceSub, reduceIte, Nat.reduceEqDiff, Nat.reduceLT, reduceCtorEq, Nat.reduceMul, Nat.reduceBEq, Int.reduceEq, if_true, if_false, eq_self, ne_eq, env_bT, T_9, Token.pv_eq, pf_9, f9]
    refine AW.seq ?_
    replace h := Option.bind_eq_some_iff.1 h; obtain ⟨⟨r10, r11, r12⟩, q13, h⟩ := h
    dsimp only at h
    have f14 := c_F10 r7 r10 r11 r12 q13
    try dsimp only at f14
    refine AW.reg hS [(0, .pv (.str s1)), (3, .pv (.str r7)), (4, .pv (.slice (List.map Token.pv r10))), (6, .pv (.int .i64 r12))] [] ?_ ?_
    · simp -implicitDefEqProofs only [RUNS, qindex, Nat.reduceAdd, Nat.reduceLeDiff, Nat.reduceSub, reduceIte, Nat.reduceEqDiff, Nat.reduceLT, reduceCtorEq, Nat.reduceMul, Nat.reduceBEq, Int.reduceEq, if_true, if_false, eq_self, ne_eq, env_bT, T_9, Token.pv_eq, pf_10, f14]
    refine AW.seq ?_
    refine AW.seq ?_
    replace h := Option.bind_eq_some_iff.1 h; obtain ⟨r15, q16, h⟩ := h
    have f17 := c_F11 s1 r15 q16
    try dsimp only at f17
    replace h := Option.bind_eq_some_iff.1 h; obtain ⟨r18, q19, h⟩ := h
    have f20 := fun hg => c_F12 s1 r18 (guardO_t q19 hg)
    try dsimp only at f20
    replace h := Option.bind_eq_some_iff.1 h; obtain ⟨r21, q22, h⟩ := h
    have f23 := fun hg => c_F13 s1 r21 (guardO_t q22 hg)
    try dsimp only at f23
    refine AW.reg hS [(0, .pv (.str s1)), (4, .pv (.slice (List.map Token.pv r10))), (40, .pv (.bool (((!decide (r7 = r15) || !(r18 == r21)) || !decide (r12 = 0)) || !decide ((r10.length : Int) = 1))))] [] ?_ ?_
    · clear h
      (simp -implicitDefEqProofs only [RUNS, qindex, Nat.reduceAdd, Nat.reduceLeDiff, Nat.reduceSub, reduceIte, Nat.reduceEqDiff, Nat.reduceLT, reduceCtorEq, Nat.reduceMul, Nat.reduceBEq, Int.reduceEq, if_true, if_false, eq_self, ne_eq, env_bT, T_3, T_4, T_9, T_24, T_25, T_30, Token.pv_eq, pf_11, f17, eqT_9, pf_12, f20, pf_13, f23, eqT_4, isBoolT_4, eqT_25, eqT_3]); repeat' (split <;> rename_i hb <;> (try simp only [HBS, ge_iff_le, gt_iff_lt] at hb) <;> simp -implicitDefEqProofs only [RUNS, qindex, Nat.reduceAdd, Nat.reduceLeDiff, Nat.reduceSub, reduceIte, Nat.reduceEqDiff, Nat.reduceLT, reduceCtorEq, Nat.reduceMul, Nat.reduceBEq, Int.reduceEq, if_true, if_false, eq_self, ne_eq, env_bT, T_3, T_4, T_9, T_24, T_25, T_30, Token.pv_eq, pf_11, f17, eqT_9, pf_12, f20, pf_13, f23, eqT_4, isBoolT_4, eqT_25, eqT_3, *, decide_true, decide_false, Decidable.not_not, not_false_eq_true, not_true_eq_false])
      all_goals (first | (simp only [BOOLS]; done) | (simp [*]; done) | ((try simp only [CLOS, beq_iff_eq, bne_iff_ne, ne_eq] at *) <;> omega) | (simp_all; done) | (simp_all <;> omega))
    refine AW.cond (b := (((!decide (r7 = r15) || !(r18 == r21)) || !decide (r12 = 0)) || !decide ((r10.length : Int) = 1))) rfl (fun hb24 => ?_) (fun hb24 => ?_)
    · replace h := bif_t hb24 h
      refine AW.seq ?_
      refine AW.reg hS [(2, .pv (.bool false))] [] ?_ ?_
      · simp -implicitDefEqProofs only [RUNS, qindex, Nat.reduceAdd, Nat.reduceLeDiff, Nat.reduceSub, reduceIte, Nat.reduceEqDiff, Nat.reduceLT, reduceCtorEq, Nat.reduceMul, Nat.reduceBEq, Int.reduceEq, if_true, if_false, eq_self, ne_eq, env_bT, Token.pv_eq]
      refine AW.ret ?_
      cases h
      show finish _ _ _ _ _ = _
      first | rfl | (simp [finish, resOf, renArgs, toPV, selObjs, sl])
    · replace h := bif_f hb24 h
      refine AW.skip ?_
      refine AW.seq ?_
      replace h := Option.bind_eq_some_iff.1 h; obtain ⟨u25, q26, h⟩ := h
      have f27 := lidx_f q26
      refine AW.reg hS [(0, .pv (.str s1)), (7, .ref 0 0)] [.var [.pv (.int .i64 u25.kind_), .pv (.int .i64 u25.at_), .pv (.str u25.text_), .pv (.str u25.quoted_)]] ?_ ?_
      · simp -implicitDefEqProofs only [RUNS, qindex, Nat.reduceAdd, Nat.reduceLeDiff, Nat.reduceSub, reduceIte, Nat.reduceEqDiff, Nat.reduceLT, reduceCtorEq, Nat.reduceMul, Nat.reduceBEq, Int.reduceEq, if_true, if_false, eq_self, ne_eq, env_bT, T_24, T_30, Token.pv_eq, f27.1, f27.2.1]
      refine AW.seq ?_
      refine AW.seq ?_
      refine AW.reg hS [(0, .pv (.str s1)), (7, .ref 0 0), (65, .pv (.bool (((!decide (u25.kind_ = 1) || !decide (u25.at_ = 0)) || !decide (u25.text_ = s1)) || !decide ((u25.quoted_.length : Int) = (s1.length : Int)))))] [.var [.pv (.int .i64 u25.kind_), .pv (.int .i64 u25.at_), .pv (.str u25.text_), .pv (.str u25.quoted_)]] ?_ ?_
      · clear h
        (simp -implicitDefEqProofs only [RUNS, qindex, Nat.reduceAdd, Nat.reduceLeDiff, Nat.reduceSub, reduceIte, Nat.reduceEqDiff, Nat.reduceLT, reduceCtorEq, Nat.reduceMul, Nat.reduceBEq, Int.reduceEq, if_true, if_false, eq_self, ne_eq, env_bT, T_3, T_9, T_30, Token.pv_eq, eqT_3, eqT_9]); repeat' (split <;> rename_i hb <;> (try simp only [HBS, ge_iff_le, gt_iff_lt] at hb) <;> simp -implicitDefEqProofs only [RUNS, qindex, Nat.reduceAdd, Nat.reduceLeDiff, Nat.reduceSub, reduceIte, Nat.reduceEqDiff, Nat.reduceLT, reduceCtorEq, Nat.reduceMul, Nat.reduceBEq, Int.reduceEq, if_true, if_false, eq_self, ne_eq, env_bT, T_3, T_9, T_30, Token.pv_eq, eqT_3, eqT_9, *, decide_true, decide_false, Decidable.not_not, not_false_eq_true, not_true_eq_false])
        all_goals (first | (simp only [BOOLS]; done) | (simp [*]; done) | ((try simp only [CLOS, beq_iff_eq, bne_iff_ne, ne_eq] at *) <;> omega) | (simp_all; done) | (simp_all <;> omega))
      refine AW.cond (b := (((!decide (u25.kind_ = 1) || !decide (u25.at_ = 0)) || !decide (u25.text_ = s1)) || !decide ((u25.quoted_.length : Int) = (s1.length : Int)))) rfl (fun hb28 => ?_) (fun hb28 => ?_)
      · replace h := bif_t hb28 h
        refine AW.seq ?_
        refine AW.reg hS [(2, .pv (.bool false))] [.var [.pv (.int .i64 u25.kind_), .pv (.int .i64 u25.at_), .pv (.str u25.text_), .pv (.str u25.quoted_)]] ?_ ?_
        · simp -implicitDefEqProofs only [RUNS, qindex, Nat.reduceAdd, Nat.reduceLeDiff, Nat.reduceSub, reduceIte, Nat.reduceEqDiff, Nat.reduceLT, reduceCtorEq, Nat.reduceMul, Nat.reduceBEq, Int.reduceEq, if_true, if_false, eq_self, ne_eq, env_bT, Token.pv_eq]
        refine AW.ret ?_
        cases h
        show finish _ _ _ _ _ = _
        first | rfl | (simp [finish, resOf, renArgs, toPV, selObjs, sl])
      · replace h := bif_f hb28 h
        refine AW.skip ?_
        refine AW.seq ?_
        refine AW.seq ?_
        refine AW.reg hS [(0, .pv (.str s1)), (7, .ref 0 0), (67, .pv (.int .i64 (s1.length : Int))), (68, .pv (.int .i64 0))] [.var [.pv (.int .i64 u25.kind_), .pv (.int .i64 u25.at_), .pv (.str u25.text_), .pv (.str u25.quoted_)]] ?_ ?_
        · simp -implicitDefEqProofs only [RUNS, qindex, Nat.reduceAdd, Nat.reduceLeDiff, Nat.reduceSub, reduceIte, Nat.reduceEqDiff, Nat.reduceLT, reduceCtorEq, Nat.reduceMul, Nat.reduceBEq, Int.reduceEq, if_true, if_false, eq_self, ne_eq, env_bT, T_9, Token.pv_eq]
        refine AW.block ?_
        refine AW.weak (Weak.slots (L := [(0, .pv (.str s1)), (7, .ref 0 0), (67, .pv (.int .i64 (s1.length : Int))), (68, .pv (.int .i64 0))]) ⟨rfl, rfl, rfl, rfl, trivial⟩) ?_
        refine AW.loopI (α := Nat × Int) (fun (_, i29) => ⟨sl [(0, .pv (.str s1)), (7, .ref 0 0), (67, .pv (.int .i64 (s1.length : Int))), (68, .pv (.int .i64 i29))], 95, [.var [.pv (.int .i64 u25.kind_), .pv (.int .i64 u25.at_), .pv (.str u25.text_), .pv (.str u25.quoted_)]]⟩) (fun x => iter (F3_b1 s1 u25) x.1 x.2 = some r2) (fun x => x.1) (BIG, 0) h ?_
        clear h
        intro ⟨n44, i29⟩ h
        replace h := iter_some h; obtain ⟨m32, rfl, h⟩ := h
        rw [F3_b1] at h
        try dsimp only at h
        show AW _ _ _ _ ⟨sl [(0, .pv (.str s1)), (7, .ref 0 0), (67, .pv (.int .i64 (s1.length : Int))), (68, .pv (.int .i64 i29))], 95, [.var [.pv (.int .i64 u25.kind_), .pv (.int .i64 u25.at_), .pv (.str u25.text_), .pv (.str u25.quoted_)]]⟩
        refine AW.seq ?_
        refine AW.reg hS [(0, .pv (.str s1)), (7, .ref 0 0), (67, .pv (.int .i64 (s1.length : Int))), (68, .pv (.int .i64 i29)), (69, .pv (.bool (decide (i29 < (s1.length : Int)))))] [.var [.pv (.int .i64 u25.kind_), .pv (.int .i64 u25.at_), .pv (.str u25.text_), .pv (.str u25.quoted_)]] ?_ ?_
        · simp -implicitDefEqProofs only [RUNS, qindex, Nat.reduceAdd, Nat.reduceLeDiff, Nat.reduceSub, reduceIte, Nat.reduceEqDiff, Nat.reduceLT, reduceCtorEq, Nat.reduceMul, Nat.reduceBEq, Int.reduceEq, if_true, if_false, eq_self, ne_eq, env_bT, T_3, Token.pv_eq, eqT_3]
        refine AW.seq ?_
        refine AW.cond (b := decide (i29 < (s1.length : Int))) rfl (fun hb33 => ?_) (fun hb33 => ?_)
        · replace h := bif_t hb33 h
          refine AW.skip ?_
          refine AW.seq ?_
          refine AW.block ?_
          refine AW.seq ?_
          refine AW.reg hS [(0, .pv (.str s1)), (7, .ref 0 0), (8, .pv (.int .i64 i29)), (67, .pv (.int .i64 (s1.length : Int))), (68, .pv (.int .i64 i29))] [.var [.pv (.int .i64 u25.kind_), .pv (.int .i64 u25.at_), .pv (.str u25.text_), .pv (.str u25.quoted_)]] ?_ ?_
          · simp -implicitDefEqProofs only [RUNS, qindex, Nat.reduceAdd, Nat.reduceLeDiff, Nat.reduceSub, reduceIte, Nat.reduceEqDiff, Nat.reduceLT, reduceCtorEq, Nat.reduceMul, Nat.reduceBEq, Int.reduceEq, if_true, if_false, eq_self, ne_eq, env_bT, Token.pv_eq]
          refine AW.seq ?_
          replace h := Option.bind_eq_some_iff.1 h; obtain ⟨c34, q35, h⟩ := h
          have f36 := sidx_f q35
          replace h := Option.bind_eq_some_iff.1 h; obtain ⟨r37, q38, h⟩ := h
          have f39 := fun hg => c_F12 s1 r37 (guardO_t q38 hg)
          try dsimp only at f39
          refine AW.dreg mixed hS (hpf ▸ (by kernel_rfl : orderOK pfn _ = true)) [(0, .pv (.str s1)), (7, .ref 0 0), (67, .pv (.int .i64 (s1.length : Int))), (68, .pv (.int .i64 i29)), (92, .pv (.bool ((!decide (c34 = 48) && !decide (c34 = 49)) || ((decide (c34 = 49)) == r37))))] [.var [.pv (.int .i64 u25.kind_), .pv (.int .i64 u25.at_), .pv (.str u25.text_), .pv (.str u25.quoted_)]] ?_ ?_
          · clear h
            (simp -implicitDefEqProofs only [RUNS, qindex, Nat.reduceAdd, Nat.reduceLeDiff, Nat.reduceSub, reduceIte, Nat.reduceEqDiff, Nat.reduceLT, reduceCtorEq, Nat.reduceMul, Nat.reduceBEq, Int.reduceEq, if_true, if_false, eq_self, ne_eq, env_bT, T_4, T_5, T_9, T_30, Token.pv_eq, f36.1, f36.2.1, f36.2.2, eqT_5, pf_12, f39, eqT_4, isBoolT_4]); repeat' (split <;> rename_i hb <;> (try simp only [HBS, ge_iff_le, gt_iff_lt] at hb) <;> simp -implicitDefEqProofs only [RUNS, qindex, Nat.reduceAdd, Nat.reduceLeDiff, Nat.reduceSub, reduceIte, Nat.reduceEqDiff, Nat.reduceLT, reduceCtorEq, Nat.reduceMul, Nat.reduceBEq, Int.reduceEq, if_true, if_false, eq_self, ne_eq, env_bT, T_4, T_5, T_9, T_30, Token.pv_eq, f36.1, f36.2.1, f36.2.2, eqT_5, pf_12, f39, eqT_4, isBoolT_4, *, decide_true, decide_false, Decidable.not_not, not_false_eq_true, not_true_eq_false])
            all_goals (first | (simp only [BOOLS]; done) | (simp [*]; done) | ((try simp only [CLOS, beq_iff_eq, bne_iff_ne, ne_eq] at *) <;> omega) | (simp_all; done) | (simp_all <;> omega))
          refine AW.cond (b := ((!decide (c34 = 48) && !decide (c34 = 49)) || ((decide (c34 = 49)) == r37))) rfl (fun hb40 => ?_) (fun hb40 => ?_)
          · replace h := bif_t hb40 h
            refine AW.seq ?_
            refine AW.reg hS [(2, .pv (.bool false))] [.var [.pv (.int .i64 u25.kind_), .pv (.int .i64 u25.at_), .pv (.str u25.text_), .pv (.str u25.quoted_)]] ?_ ?_
            · simp -implicitDefEqProofs only [RUNS, qindex, Nat.reduceAdd, Nat.reduceLeDiff, Nat.reduceSub, reduceIte, Nat.reduceEqDiff, Nat.reduceLT, reduceCtorEq, Nat.reduceMul, Nat.reduceBEq, Int.reduceEq, if_true, if_false, eq_self, ne_eq, env_bT, Token.pv_eq]
            refine AW.ret ?_
            cases h
            show finish _ _ _ _ _ = _
            first | rfl | (simp [finish, resOf, renArgs, toPV, selObjs, sl])
          · replace h := bif_f hb40 h
            refine AW.skip ?_
            refine AW.reg hS [(0, .pv (.str s1)), (7, .ref 0 0), (67, .pv (.int .i64 (s1.length : Int))), (68, .pv (.int .i64 (IntKind.wrap .i64 (i29 + 1))))] [.var [.pv (.int .i64 u25.kind_), .pv (.int .i64 u25.at_), .pv (.str u25.text_), .pv (.str u25.quoted_)]] ?_ ?_
            · simp -implicitDefEqProofs only [RUNS, qindex, Nat.reduceAdd, Nat.reduceLeDiff, Nat.reduceSub, reduceIte, Nat.reduceEqDiff, Nat.reduceLT, reduceCtorEq, Nat.reduceMul, Nat.reduceBEq, Int.reduceEq, if_true, if_false, eq_self, ne_eq, env_bT, T_3, Token.pv_eq, eqT_3]
            exact ⟨(m32, IntKind.wrap .i64 (i29 + 1)), h, (Weak.norm (m := 1) (Nat.le_of_ble_eq_true rfl) ⟨rfl, rfl, rfl, rfl, trivial⟩ rfl rfl rfl), Nat.lt_succ_self _⟩
        · replace h := bif_f hb33 h
          refine AW.exit ?_
          refine AW.seq ?_
          replace h := Option.bind_eq_some_iff.1 h; obtain ⟨r41, q42, h⟩ := h
          have f43 := c_F8 r41 q42
          try dsimp only at f43
          refine AW.reg hS [(2, .pv (.bool r41))] [.var [.pv (.int .i64 u25.kind_), .pv (.int .i64 u25.at_), .pv (.str u25.text_), .pv (.str u25.quoted_)]] ?_ ?_
          · simp -implicitDefEqProofs only [RUNS, qindex, Nat.reduceAdd, Nat.reduceLeDiff, Nat.reduceSub, reduceIte, Nat.reduceEqDiff, Nat.reduceLT, reduceCtorEq, Nat.reduceMul, Nat.reduceBEq, Int.reduceEq, if_true, if_false, eq_self, ne_eq, env_bT, Token.pv_eq, pf_8, f43]
          refine AW.ret ?_
          cases h
          show finish _ _ _ _ _ = _
          first | rfl | (simp [finish, resOf, renArgs, toPV, selObjs, sl])

set_option maxHeartbeats 4000000 in
theorem g_F15 {O : Orc} (hS : Sound env O) (hpf : O.pf = pfn) (s1 : Str) (at2 : Int) (end3 : Str) (r4 : Str) (r5 : Int) (r6 : Int) (h : F15 s1 at2 end3 = some (r4, r5, r6)) : Good env 15 [.pv (.str s1), .pv (.int .i64 at2), .pv (.str end3)] [] [.pv (.str r4), .pv (.int .i64 r5), .pv (.int .i64 r6)] [] := by
  refine Good.start (fn := Tryd.f15) (N := 54) fn_15 rfl rfl (by simp) [] _ rfl rfl ?_
  rw [F15] at h
  refine AW.seq ?_
  refine AW.reg hS [(0, .pv (.str s1)), (1, .pv (.int .i64 at2)), (2, .pv (.str end3))] [] ?_ ?_
  · simp -implicitDefEqProofs only [RUNS, qindex, Nat.reduceAdd, Nat.reduceLeDiff, Nat.reduceSub, reduceIte, Nat.reduceEqDiff, Nat.reduceLT, reduceCtorEq, Nat.reduceMul, Nat.reduceBEq, Int.reduceEq, if_true, if_false, eq_self, ne_eq, env_bT, Token.pv_eq]
  refine AW.seq ?_
  refine AW.seq ?_
  refine AW.reg hS [(0, .pv (.str s1)), (1, .pv (.int .i64 at2)), (2, .pv (.str end3)), (18, .pv (.bool (decide (at2 < 0) || decide ((s1.length : Int) < at2))))] [] ?_ ?_
  · clear h
    (simp -implicitDefEqProofs only [RUNS, qindex, Nat.reduceAdd, Nat.reduceLeDiff, Nat.reduceSub, reduceIte, Nat.reduceEqDiff, Nat.reduceLT, reduceCtorEq, Nat.reduceMul, Nat.reduceBEq, Int.reduceEq, if_true, if_false, eq_self, ne_eq, env_bT, T_3, T_9, Token.pv_eq, eqT_3]); repeat' (split <;> rename_i hb <;> (try simp only [HBS, ge_iff_le, gt_iff_lt] at hb) <;> simp -implicitDefEqProofs only [RUNS, qindex, Nat.reduceAdd, Nat.reduceLeDiff, Nat.reduceSub, reduceIte, Nat.reduceEqDiff, Nat.reduceLT, reduceCtorEq, Nat.reduceMul, Nat.reduceBEq, Int.reduceEq, if_true, if_false, eq_self, ne_eq, env_bT, T_3, T_9, Token.pv_eq, eqT_3, *, decide_true, decide_false, Decidable.not_not, not_false_eq_true, not_true_eq_false])
    all_goals (first | (simp only [BOOLS]; done) | (simp [*]; done) | ((try simp only [CLOS, beq_iff_eq, bne_iff_ne, ne_eq] at *) <;> omega) | (simp_all; done) | (simp_all <;> omega))
  refine AW.cond (b := (decide (at2 < 0) || decide ((s1.length : Int) < at2))) rfl (fun hb7 => ?_) (fun hb7 => ?_)
  · replace h := bif_t hb7 h
    refine AW.seq ?_
    refine AW.reg hS [(6, .pv (.str [])), (7, .pv (.int .i64 0)), (8, .pv (.int .i64 1))] [] ?_ ?_
    · simp -implicitDefEqProofs only [RUNS, qindex, Nat.reduceAdd, Nat.reduceLeDiff, Nat.reduceSub, reduceIte, Nat.reduceEqDiff, Nat.reduceLT, reduceCtorEq, Nat.reduceMul, Nat.reduceBEq, Int.reduceEq, if_true, if_false, eq_self, ne_eq, env_bT, Token.pv_eq]
    refine AW.ret ?_
    cases h
    show finish _ _ _ _ _ = _
    first | rfl | (simp [finish, resOf, renArgs, toPV, selObjs, sl])
  · replace h := bif_f hb7 h
    refine AW.skip ?_
    refine AW.seq ?_
    refine AW.reg hS [(0, .pv (.str s1)), (1, .pv (.int .i64 at2)), (2, .pv (.str end3)), (9, .pv (.int .i64 at2))] [] ?_ ?_
    · simp -implicitDefEqProofs only [RUNS, qindex, Nat.reduceAdd, Nat.reduceLeDiff, Nat.reduceSub, reduceIte, Nat.reduceEqDiff, Nat.reduceLT, reduceCtorEq, Nat.reduceMul, Nat.reduceBEq, Int.reduceEq, if_true, if_false, eq_self, ne_eq, env_bT, Token.pv_eq]
    refine AW.seq ?_
    refine AW.block ?_
    refine AW.weak (Weak.slots (L := [(0, .pv (.str s1)), (1, .pv (.int .i64 at2)), (2, .pv (.str end3)), (9, .pv (.int .i64 at2))]) ⟨rfl, rfl, rfl, rfl, trivial⟩) ?_
    refine AW.loopI (α := Nat × Int) (fun (_, from8) => ⟨sl [(0, .pv (.str s1)), (1, .pv (.int .i64 at2)), (2, .pv (.str end3)), (9, .pv (.int .i64 from8))], 54, []⟩) (fun x => iter (F15_b2 s1 end3 at2) x.1 x.2 = some (r4, r5, r6)) (fun x => x.1) (BIG, at2) h ?_
    clear h
    intro ⟨n29, from8⟩ h
    replace h := iter_some h; obtain ⟨m11, rfl, h⟩ := h
    rw [F15_b2] at h
    try dsimp only at h
    show AW _ _ _ _ ⟨sl [(0, .pv (.str s1)), (1, .pv (.int .i64 at2)), (2, .pv (.str end3)), (9, .pv (.int .i64 from8))], 54, []⟩
    refine AW.seq ?_
    refine AW.seq ?_
    refine AW.reg hS [(0, .pv (.str s1)), (1, .pv (.int .i64 at2)), (2, .pv (.str end3)), (9, .pv (.int .i64 from8)), (23, .pv (.bool (decide (from8 < (s1.length : Int)))))] [] ?_ ?_
    · simp -implicitDefEqProofs only [RUNS, qindex, Nat.reduceAdd, Nat.reduceLeDiff, Nat.reduceSub, reduceIte, Nat.reduceEqDiff, Nat.reduceLT, reduceCtorEq, Nat.reduceMul, Nat.reduceBEq, Int.reduceEq, if_true, if_false, eq_self, ne_eq, env_bT, T_3, T_9, Token.pv_eq, eqT_3]
    refine AW.cond (b := decide (from8 < (s1.length : Int))) rfl (fun hb12 => ?_) (fun hb12 => ?_)
    · replace h := bif_t hb12 h
      refine AW.skip ?_
      refine AW.block ?_
      refine AW.seq ?_
      refine AW.reg hS [(0, .pv (.str s1)), (1, .pv (.int .i64 at2)), (2, .pv (.str end3)), (9, .pv (.int .i64 from8)), (10, .pv (.int .i64 from8))] [] ?_ ?_
      · simp -implicitDefEqProofs only [RUNS, qindex, Nat.reduceAdd, Nat.reduceLeDiff, Nat.reduceSub, reduceIte, Nat.reduceEqDiff, Nat.reduceLT, reduceCtorEq, Nat.reduceMul, Nat.reduceBEq, Int.reduceEq, if_true, if_false, eq_self, ne_eq, env_bT, Token.pv_eq]
      refine AW.seq ?_
      refine AW.block ?_
      refine AW.weak (Weak.slots (L := [(0, .pv (.str s1)), (1, .pv (.int .i64 at2)), (2, .pv (.str end3)), (9, .pv (.int .i64 from8)), (10, .pv (.int .i64 from8))]) ⟨rfl, rfl, rfl, rfl, rfl, trivial⟩) ?_
      refine AW.loopI (α := Nat × Int) (fun (_, to13) => ⟨sl [(0, .pv (.str s1)), (1, .pv (.int .i64 at2)), (2, .pv (.str end3)), (9, .pv (.int .i64 from8)), (10, .pv (.int .i64 to13))], 54, []⟩) (fun x => iter (F15_b3 s1 from8 end3 at2 (iter (F15_b2 s1 end3 at2) m11)) x.1 x.2 = some (r4, r5, r6)) (fun x => x.1) (BIG, from8) h ?_
      clear h
      intro ⟨n28, to13⟩ h
      replace h := iter_some h; obtain ⟨m16, rfl, h⟩ := h
      rw [F15_b3] at h
      try dsimp only at h
      show AW _ _ _ _ ⟨sl [(0, .pv (.str s1)), (1, .pv (.int .i64 at2)), (2, .pv (.str end3)), (9, .pv (.int .i64 from8)), (10, .pv (.int .i64 to13))], 54, []⟩
      refine AW.seq ?_
      refine AW.seq ?_
      replace h := Option.bind_eq_some_iff.1 h; obtain ⟨c17, q18, h⟩ := h
      have f19 := sidx_g (guardO_t q18)
      refine AW.reg hS [(0, .pv (.str s1)), (1, .pv (.int .i64 at2)), (2, .pv (.str end3)), (9, .pv (.int .i64 from8)), (10, .pv (.int .i64 to13)), (34, .pv (.bool (decide (to13 < (s1.length : Int)) && !decide (c17 = 10))))] [] ?_ ?_
      · clear h
        (simp -implicitDefEqProofs only [RUNS, qindex, Nat.reduceAdd, Nat.reduceLeDiff, Nat.reduceSub, reduceIte, Nat.reduceEqDiff, Nat.reduceLT, reduceCtorEq, Nat.reduceMul, Nat.reduceBEq, Int.reduceEq, if_true, if_false, eq_self, ne_eq, env_bT, T_3, T_5, T_9, Token.pv_eq, eqT_3, f19.1, f19.2.1, f19.2.2, eqT_5]); repeat' (split <;> rename_i hb <;> (try simp only [HBS, ge_iff_le, gt_iff_lt] at hb) <;> simp -implicitDefEqProofs only [RUNS, qindex, Nat.reduceAdd, Nat.reduceLeDiff, Nat.reduceSub, reduceIte, Nat.reduceEqDiff, Nat.reduceLT, reduceCtorEq, Nat.reduceMul, Nat.reduceBEq, Int.reduceEq, if_true, if_false, eq_self, ne_eq, env_bT, T_3, T_5, T_9, Token.pv_eq, eqT_3, f19.1, f19.2.1, f19.2.2, eqT_5, *, decide_true, decide_false, Decidable.not_not, not_false_eq_true, not_true_eq_false])
        all_goals (first | (simp only [BOOLS]; done) | (simp [*]; done) | ((try simp only [CLOS, beq_iff_eq, bne_iff_ne, ne_eq] at *) <;> omega) | (simp_all; done) | (simp_all <;> omega))
      refine AW.cond (b := (decide (to13 < (s1.length : Int)) && !decide (c17 = 10))) rfl (fun hb20 => ?_) (fun hb20 => ?_)
      · replace h := bif_t hb20 h
        refine AW.skip ?_
        refine AW.block ?_
        refine AW.reg hS [(0, .pv (.str s1)), (1, .pv (.int .i64 at2)), (2, .pv (.str end3)), (9, .pv (.int .i64 from8)), (10, .pv (.int .i64 (IntKind.wrap .i64 (to13 + 1))))] [] ?_ ?_
        · simp -implicitDefEqProofs only [RUNS, qindex, Nat.reduceAdd, Nat.reduceLeDiff, Nat.reduceSub, reduceIte, Nat.reduceEqDiff, Nat.reduceLT, reduceCtorEq, Nat.reduceMul, Nat.reduceBEq, Int.reduceEq, if_true, if_false, eq_self, ne_eq, env_bT, T_3, Token.pv_eq, eqT_3]
        exact ⟨(m16, IntKind.wrap .i64 (to13 + 1)), h, (Weak.norm (m := 0) (Nat.le_of_ble_eq_true rfl) ⟨rfl, rfl, rfl, rfl, rfl, trivial⟩ rfl rfl rfl), Nat.lt_succ_self _⟩
      · replace h := bif_f hb20 h
        refine AW.exit ?_
        refine AW.seq ?_
        refine AW.seq ?_
        replace h := Option.bind_eq_some_iff.1 h; obtain ⟨t21, q22, h⟩ := h
        have f23 := sslice_f q22
        have f23e := f23.2.2.2.2
        try simp only [Int.toNat_natCast, Int.toNat_zero, List.drop_zero] at f23e
        have f23l := f23.2.2.1
        try simp only [Int.toNat_natCast, Int.toNat_zero] at f23l
        refine AW.reg hS [(0, .pv (.str s1)), (1, .pv (.int .i64 at2)), (2, .pv (.str end3)), (9, .pv (.int .i64 from8)), (10, .pv (.int .i64 to13)), (42, .pv (.bool (decide (t21 = end3))))] [] ?_ ?_
        · simp -implicitDefEqProofs only [RUNS, qindex, Nat.reduceAdd, Nat.reduceLeDiff, Nat.reduceSub, reduceIte, Nat.reduceEqDiff, Nat.reduceLT, reduceCtorEq, Nat.reduceMul, Nat.reduceBEq, Int.reduceEq, if_true, if_false, eq_self, ne_eq, env_bT, T_9, Token.pv_eq, f23.1, f23.2.1, f23l, f23.2.2.2.1, f23e, Int.toNat_natCast, Int.toNat_zero, eqT_9]
        refine AW.cond (b := decide (t21 = end3)) rfl (fun hb24 => ?_) (fun hb24 => ?_)
        · replace h := bif_t hb24 h
          refine AW.seq ?_
          replace h := Option.bind_eq_some_iff.1 h; obtain ⟨t25, q26, h⟩ := h
          have f27 := sslice_f q26
          have f27e := f27.2.2.2.2
          try simp only [Int.toNat_natCast, Int.toNat_zero, List.drop_zero] at f27e
          have f27l := f27.2.2.1
          try simp only [Int.toNat_natCast, Int.toNat_zero] at f27l
          refine AW.reg hS [(6, .pv (.str t25)), (7, .pv (.int .i64 (imin (IntKind.wrap .i64 (to13 + 1)) (s1.length : Int)))), (8, .pv (.int .i64 0))] [] ?_ ?_
          · simp -implicitDefEqProofs only [RUNS, qindex, Nat.reduceAdd, Nat.reduceLeDiff, Nat.reduceSub, reduceIte, Nat.reduceEqDiff, Nat.reduceLT, reduceCtorEq, Nat.reduceMul, Nat.reduceBEq, Int.reduceEq, if_true, if_false, eq_self, ne_eq, env_bT, T_3, T_9, Token.pv_eq, f27.1, f27.2.1, f27l, f27.2.2.2.1, f27e, Int.toNat_natCast, Int.toNat_zero, eqT_3]
          refine AW.ret ?_
          cases h
          show finish _ _ _ _ _ = _
          first | rfl | (simp [finish, resOf, renArgs, toPV, selObjs, sl])
        · replace h := bif_f hb24 h
          refine AW.skip ?_
          refine AW.reg hS [(0, .pv (.str s1)), (1, .pv (.int .i64 at2)), (2, .pv (.str end3)), (9, .pv (.int .i64 (IntKind.wrap .i64 (to13 + 1))))] [] ?_ ?_
          · simp -implicitDefEqProofs only [RUNS, qindex, Nat.reduceAdd, Nat.reduceLeDiff, Nat.reduceSub, reduceIte, Nat.reduceEqDiff, Nat.reduceLT, reduceCtorEq, Nat.reduceMul, Nat.reduceBEq, Int.reduceEq, if_true, if_false, eq_self, ne_eq, env_bT, T_3, Token.pv_eq, eqT_3]
          exact ⟨(m11, IntKind.wrap .i64 (to13 + 1)), h, (Weak.norm (m := 0) (Nat.le_of_ble_eq_true rfl) ⟨rfl, rfl, rfl, rfl, trivial⟩ rfl rfl rfl), Nat.lt_succ_self _⟩
    · replace h := bif_f hb12 h
      refine AW.exit ?_
      refine AW.seq ?_
      refine AW.reg hS [(6, .pv (.str [])), (7, .pv (.int .i64 0)), (8, .pv (.int .i64 3))] [] ?_ ?_
      · simp -implicitDefEqProofs only [RUNS, qindex, Nat.reduceAdd, Nat.reduceLeDiff, Nat.reduceSub, reduceIte, Nat.reduceEqDiff, Nat.reduceLT, reduceCtorEq, Nat.reduceMul, Nat.reduceBEq, Int.reduceEq, if_true, if_false, eq_self, ne_eq, env_bT, Token.pv_eq]
      refine AW.ret ?_
      cases h
      show finish _ _ _ _ _ = _
      first | rfl | (simp [finish, resOf, renArgs, toPV, selObjs, sl])

set_option maxHeartbeats 4000000 in
theorem g_F4 {O : Orc} (hS : Sound env O) (hpf : O.pf = pfn) (c_F8 : C_F8 O) (c_F14 : C_F14 O) (c_F15 : C_F15 O) (s1 : Str) (at2 : Int) (end3 : Str) (r4 : Bool) (h : F4 s1 at2 end3 = some r4) : Good env 4 [.pv (.str s1), .pv (.int .i64 at2), .pv (.str end3)] [] [.pv (.bool r4)] [] := by
  have pf_8 : O.pf 8 = true := by rw [hpf]; rfl
  have pf_14 : O.pf 14 = true := by rw [hpf]; rfl
  have pf_15 : O.pf 15 = true := by rw [hpf]; rfl
  refine Good.start (fn := Tryd.f4) (N := 54) fn_4 rfl rfl (by simp) [] _ rfl rfl ?_
  rw [F4] at h
  refine AW.seq ?_
  refine AW.reg hS [(0, .pv (.str s1)), (1, .pv (.int .i64 at2)), (2, .pv (.str end3))] [] ?_ ?_
  · simp -implicitDefEqProofs only [RUNS, qindex, Nat.reduceAdd, Nat.reduceLeDiff, Nat.reduceSub, reduceIte, Nat.reduceEqDiff, Nat.reduceLT, reduceCtorEq, Nat.reduceMul, Nat.reduceBEq, Int.reduceEq, if_true, if_false, eq_self, ne_eq, env_bT, Token.pv_eq]
  refine AW.seq ?_
  refine AW.seq ?_
  refine AW.reg hS [(0, .pv (.str s1)), (1, .pv (.int .i64 at2)), (2, .pv (.str end3)), (20, .pv (.bool (decide (3000 < (s1.length : Int)) || decide (1000 < (end3.length : Int)))))] [] ?_ ?_
  · clear h
    (simp -implicitDefEqProofs only [RUNS, qindex, Nat.reduceAdd, Nat.reduceLeDiff, Nat.reduceSub, reduceIte, Nat.reduceEqDiff, Nat.reduceLT, reduceCtorEq, Nat.reduceMul, Nat.reduceBEq, Int.reduceEq, if_true, if_false, eq_self, ne_eq, env_bT, T_3, T_9, Token.pv_eq, eqT_3]); repeat' (split <;> rename_i hb <;> (try simp only [HBS, ge_iff_le, gt_iff_lt] at hb) <;> simp -implicitDefEqProofs only [RUNS, qindex, Nat.reduceAdd, Nat.reduceLeDiff, Nat.reduceSub, reduceIte, Nat.reduceEqDiff, Nat.reduceLT, reduceCtorEq, Nat.reduceMul, Nat.reduceBEq, Int.reduceEq, if_true, if_false, eq_self, ne_eq, env_bT, T_3, T_9, Token.pv_eq, eqT_3, *, decide_true, decide_false, Decidable.not_not, not_false_eq_true, not_true_eq_false])
    all_goals (first | (simp only [BOOLS]; done) | (simp [*]; done) | ((try simp only [CLOS, beq_iff_eq, bne_iff_ne, ne_eq] at *) <;> omega) | (simp_all; done) | (simp_all <;> omega))
  refine AW.cond (b := (decide (3000 < (s1.length : Int)) || decide (1000 < (end3.length : Int)))) rfl (fun hb5 => ?_) (fun hb5 => ?_)
  · replace h := bif_t hb5 h
    refine AW.seq ?_
    replace h := Option.bind_eq_some_iff.1 h; obtain ⟨r6, q7, h⟩ := h
    have f8 := c_F8 r6 q7
    try dsimp only at f8
    refine AW.reg hS [(6, .pv (.bool r6))] [] ?_ ?_
    · simp -implicitDefEqProofs only [RUNS, qindex, Nat.reduceAdd, Nat.reduceLeDiff, Nat.reduceSub, reduceIte, Nat.reduceEqDiff, Nat.reduceLT, reduceCtorEq, Nat.reduceMul, Nat.reduceBEq, Int.reduceEq, if_true, if_false, eq_self, ne_eq, env_bT, Token.pv_eq, pf_8, f8]
    refine AW.ret ?_
    cases h
    show finish _ _ _ _ _ = _
    first | rfl | (simp [finish, resOf, renArgs, toPV, selObjs, sl])
  · replace h := bif_f hb5 h
    refine AW.skip ?_
    refine AW.seq ?_
    replace h := Option.bind_eq_some_iff.1 h; obtain ⟨⟨r9, r10, r11⟩, q12, h⟩ := h
    dsimp only at h
    have f13 := c_F14 s1 at2 end3 r9 r10 r11 q12
    try dsimp only at f13
    refine AW.reg hS [(0, .pv (.str s1)), (1, .pv (.int .i64 at2)), (2, .pv (.str end3)), (7, .pv (.str r9)), (8, .pv (.int .i64 r10)), (9, .pv (.int .i64 r11))] [] ?_ ?_
    · simp -implicitDefEqProofs only [RUNS, qindex, Nat.reduceAdd, Nat.reduceLeDiff, Nat.reduceSub, reduceIte, Nat.reduceEqDiff, Nat.reduceLT, reduceCtorEq, Nat.reduceMul, Nat.reduceBEq, Int.reduceEq, if_true, if_false, eq_self, ne_eq, env_bT, T_3, T_9, Token.pv_eq, pf_14, f13]
    refine AW.seq ?_
    replace h := Option.bind_eq_some_iff.1 h; obtain ⟨⟨r14, r15, r16⟩, q17, h⟩ := h
    dsimp only at h
    have f18 := c_F15 s1 at2 end3 r14 r15 r16 q17
    try dsimp only at f18
    refine AW.reg hS [(7, .pv (.str r9)), (8, .pv (.int .i64 r10)), (9, .pv (.int .i64 r11)), (10, .pv (.str r14)), (11, .pv (.int .i64 r15)), (12, .pv (.int .i64 r16))] [] ?_ ?_
    · simp -implicitDefEqProofs only [RUNS, qindex, Nat.reduceAdd, Nat.reduceLeDiff, Nat.reduceSub, reduceIte, Nat.reduceEqDiff, Nat.reduceLT, reduceCtorEq, Nat.reduceMul, Nat.reduceBEq, Int.reduceEq, if_true, if_false, eq_self, ne_eq, env_bT, T_3, T_9, Token.pv_eq, pf_15, f18]
    refine AW.seq ?_
    replace h := Option.bind_eq_some_iff.1 h; obtain ⟨r19, q20, h⟩ := h
    have f21 := fun hg => c_F8 r19 (guardO_t q20 hg)
    try dsimp only at f21
    refine AW.reg hS [(6, .pv (.bool (((decide (r9 = r14) && decide (r10 = r15)) && decide (r11 = r16)) && r19)))] [] ?_ ?_
    · clear h
      (simp -implicitDefEqProofs only [RUNS, qindex, Nat.reduceAdd, Nat.reduceLeDiff, Nat.reduceSub, reduceIte, Nat.reduceEqDiff, Nat.reduceLT, reduceCtorEq, Nat.reduceMul, Nat.reduceBEq, Int.reduceEq, if_true, if_false, eq_self, ne_eq, env_bT, T_3, T_9, T_25, Token.pv_eq, eqT_9, eqT_3, eqT_25, pf_8, f21]); repeat' (split <;> rename_i hb <;> (try simp only [HBS, ge_iff_le, gt_iff_lt] at hb) <;> simp -implicitDefEqProofs only [RUNS, qindex, Nat.reduceAdd, Nat.reduceLeDiff, Nat.reduceSub, reduceIte, Nat.reduceEqDiff, Nat.reduceLT, reduceCtorEq, Nat.reduceMul, Nat.reduceBEq, Int.reduceEq, if_true, if_false, eq_self, ne_eq, env_bT, T_3, T_9, T_25, Token.pv_eq, eqT_9, eqT_3, eqT_25, pf_8, f21, *, decide_true, decide_false, Decidable.not_not, not_false_eq_true, not_true_eq_false])
      all_goals (first | (simp only [BOOLS]; done) | (simp [*]; done) | ((try simp only [CLOS, beq_iff_eq, bne_iff_ne, ne_eq] at *) <;> omega) | (simp_all; done) | (simp_all <;> omega))
    refine AW.ret ?_
    cases h
    show finish _ _ _ _ _ = _
    first | rfl | (simp [finish, resOf, renArgs, toPV, selObjs, sl])

set_option maxHeartbeats 4000000 in
theorem g_F5 {O : Orc} (hS : Sound env O) (hpf : O.pf = pfn) (c_F8 : C_F8 O) (c_F10 : C_F10 O) (s1 : Str) (r2 : Bool) (h : F5 s1 = some r2) : Good env 5 [.pv (.str s1)] [] [.pv (.bool r2)] [] := by
  have pf_8 : O.pf 8 = true := by rw [hpf]; rfl
  have pf_10 : O.pf 10 = true := by rw [hpf]; rfl
  refine Good.start (fn := Tryd.f5) (N := 120) fn_5 rfl rfl (by simp) [] _ rfl rfl ?_
  rw [F5] at h
  refine AW.seq ?_
  refine AW.reg hS [(0, .pv (.str s1))] [] ?_ ?_
  · simp -implicitDefEqProofs only [RUNS, qindex, Nat.reduceAdd, Nat.reduceLeDiff, Nat.reduceSub, reduceIte, Nat.reduceEqDiff, Nat.reduceLT, reduceCtorEq, Nat.reduceMul, Nat.reduceBEq, Int.reduceEq, if_true, if_false, eq_self, ne_eq, env_bT, Token.pv_eq]
  refine AW.seq ?_
  refine AW.seq ?_
  refine AW.reg hS [(0, .pv (.str s1)), (12, .pv (.bool (decide (3000 < (s1.length : Int)))))] [] ?_ ?_
  · simp -implicitDefEqProofs only [RUNS, qindex, Nat.reduceAdd, Nat.reduceLeDiff, Nat.reduceSub, reduceIte, Nat.reduceEqDiff, Nat.reduceLT, reduceCtorEq, Nat.reduceMul, Nat.reduceBEq, Int.reduceEq, if_true, if_false, eq_self, ne_eq, env_bT, T_3, T_9, Token.pv_eq, eqT_3]
  refine AW.cond (b := decide (3000 < (s1.length : Int))) rfl (fun hb3 => ?_) (fun hb3 => ?_)
  · replace h := bif_t hb3 h
    refine AW.seq ?_
    replace h := Option.bind_eq_some_iff.1 h; obtain ⟨r4, q5, h⟩ := h
    have f6 := c_F8 r4 q5
    try dsimp only at f6
    refine AW.reg hS [(2, .pv (.bool r4))] [] ?_ ?_
    · simp -implicitDefEqProofs only [RUNS, qindex, Nat.reduceAdd, Nat.reduceLeDiff, Nat.reduceSub, reduceIte, Nat.reduceEqDiff, Nat.reduceLT, reduceCtorEq, Nat.reduceMul, Nat.reduceBEq, Int.reduceEq, if_true, if_false, eq_self, ne_eq, env_bT, Token.pv_eq, pf_8, f6]
    refine AW.ret ?_
    cases h
    show finish _ _ _ _ _ = _
    first | rfl | (simp [finish, resOf, renArgs, toPV, selObjs, sl])
  · replace h := bif_f hb3 h
    refine AW.skip ?_
    refine AW.seq ?_
    replace h := Option.bind_eq_some_iff.1 h; obtain ⟨⟨r7, r8, r9⟩, q10, h⟩ := h
    dsimp only at h
    have f11 := c_F10 s1 r7 r8 r9 q10
    try dsimp only at f11
    refine AW.reg hS [(0, .pv (.str s1)), (3, .pv (.slice (List.map Token.pv r7))), (4, .pv (.int .i64 r8)), (5, .pv (.int .i64 r9))] [] ?_ ?_
    · simp -implicitDefEqProofs only [RUNS, qindex, Nat.reduceAdd, Nat.reduceLeDiff, Nat.reduceSub, reduceIte, Nat.reduceEqDiff, Nat.reduceLT, reduceCtorEq, Nat.reduceMul, Nat.reduceBEq, Int.reduceEq, if_true, if_false, eq_self, ne_eq, env_bT, T_9, Token.pv_eq, pf_10, f11]
    refine AW.seq ?_
    refine AW.seq ?_
    refine AW.reg hS [(0, .pv (.str s1)), (3, .pv (.slice (List.map Token.pv r7))), (4, .pv (.int .i64 r8)), (21, .pv (.bool (!decide (r9 = 0))))] [] ?_ ?_
    · simp -implicitDefEqProofs only [RUNS, qindex, Nat.reduceAdd, Nat.reduceLeDiff, Nat.reduceSub, reduceIte, Nat.reduceEqDiff, Nat.reduceLT, reduceCtorEq, Nat.reduceMul, Nat.reduceBEq, Int.reduceEq, if_true, if_false, eq_self, ne_eq, env_bT, T_25, Token.pv_eq, eqT_25]
    refine AW.cond (b := !decide (r9 = 0)) rfl (fun hb12 => ?_) (fun hb12 => ?_)
    · replace h := bif_t hb12 h
      refine AW.seq ?_
      replace h := Option.bind_eq_some_iff.1 h; obtain ⟨r13, q14, h⟩ := h
      have f15 := fun hg => c_F8 r13 (guardO_t q14 hg)
      try dsimp only at f15
      refine AW.reg hS [(2, .pv (.bool (((decide ((r7.length : Int) = 0) && decide (0 ≤ r8)) && decide (r8 ≤ (s1.length : Int))) && r13)))] [] ?_ ?_
      · clear h
        (simp -implicitDefEqProofs only [RUNS, qindex, Nat.reduceAdd, Nat.reduceLeDiff, Nat.reduceSub, reduceIte, Nat.reduceEqDiff, Nat.reduceLT, reduceCtorEq, Nat.reduceMul, Nat.reduceBEq, Int.reduceEq, if_true, if_false, eq_self, ne_eq, env_bT, T_3, T_9, T_24, T_30, Token.pv_eq, eqT_3, pf_8, f15]); repeat' (split <;> rename_i hb <;> (try simp only [HBS, ge_iff_le, gt_iff_lt] at hb) <;> simp -implicitDefEqProofs only [RUNS, qindex, Nat.reduceAdd, Nat.reduceLeDiff, Nat.reduceSub, reduceIte, Nat.reduceEqDiff, Nat.reduceLT, reduceCtorEq, Nat.reduceMul, Nat.reduceBEq, Int.reduceEq, if_true, if_false, eq_self, ne_eq, env_bT, T_3, T_9, T_24, T_30, Token.pv_eq, eqT_3, pf_8, f15, *, decide_true, decide_false, Decidable.not_not, not_false_eq_true, not_true_eq_false])
        all_goals (first | (simp only [BOOLS]; done) | (simp [*]; done) | ((try simp only [CLOS, beq_iff_eq, bne_iff_ne, ne_eq] at *) <;> omega) | (simp_all; done) | (simp_all <;> omega))
      refine AW.ret ?_
      cases h
      show finish _ _ _ _ _ = _
      first | rfl | (simp [finish, resOf, renArgs, toPV, selObjs, sl])
    · replace h := bif_f hb12 h
      refine AW.skip ?_
      refine AW.seq ?_
      refine AW.reg hS [(0, .pv (.str s1)), (3, .pv (.slice (List.map Token.pv r7))), (6, .pv (.int .i64 0))] [] ?_ ?_
      · simp -implicitDefEqProofs only [RUNS, qindex, Nat.reduceAdd, Nat.reduceLeDiff, Nat.reduceSub, reduceIte, Nat.reduceEqDiff, Nat.reduceLT, reduceCtorEq, Nat.reduceMul, Nat.reduceBEq, Int.reduceEq, if_true, if_false, eq_self, ne_eq, env_bT, Token.pv_eq]
      refine AW.seq ?_
      refine AW.seq ?_
      refine AW.reg hS [(0, .pv (.str s1)), (3, .pv (.slice (List.map Token.pv r7))), (6, .pv (.int .i64 0)), (39, .pv (.int .i64 (r7.length : Int))), (40, .pv (.int .i64 0))] [] ?_ ?_
      · simp -implicitDefEqProofs only [RUNS, qindex, Nat.reduceAdd, Nat.reduceLeDiff, Nat.reduceSub, reduceIte, Nat.reduceEqDiff, Nat.reduceLT, reduceCtorEq, Nat.reduceMul, Nat.reduceBEq, Int.reduceEq, if_true, if_false, eq_self, ne_eq, env_bT, T_24, T_30, Token.pv_eq]
      refine AW.block ?_
      refine AW.weak (Weak.slots (L := [(0, .pv (.str s1)), (3, .pv (.slice (List.map Token.pv r7))), (6, .pv (.int .i64 0)), (39, .pv (.int .i64 (r7.length : Int))), (40, .pv (.int .i64 0))]) ⟨rfl, rfl, rfl, rfl, rfl, trivial⟩) ?_
      refine AW.loopI (α := Nat × Int × Int) (fun (_, last16, i17) => ⟨sl [(0, .pv (.str s1)), (3, .pv (.slice (List.map Token.pv r7))), (6, .pv (.int .i64 last16)), (39, .pv (.int .i64 (r7.length : Int))), (40, .pv (.int .i64 i17))], 120, []⟩) (fun x => iter (F5_b1 r7 s1) x.1 x.2 = some r2) (fun x => x.1) (BIG, (0, 0)) h ?_
      clear h
      intro ⟨n38, last16, i17⟩ h
      replace h := iter_some h; obtain ⟨m20, rfl, h⟩ := h
      rw [F5_b1] at h
      try dsimp only at h
      show AW _ _ _ _ ⟨sl [(0, .pv (.str s1)), (3, .pv (.slice (List.map Token.pv r7))), (6, .pv (.int .i64 last16)), (39, .pv (.int .i64 (r7.length : Int))), (40, .pv (.int .i64 i17))], 120, []⟩
      refine AW.seq ?_
      refine AW.reg hS [(0, .pv (.str s1)), (3, .pv (.slice (List.map Token.pv r7))), (6, .pv (.int .i64 last16)), (39, .pv (.int .i64 (r7.length : Int))), (40, .pv (.int .i64 i17)), (41, .pv (.bool (decide (i17 < (r7.length : Int)))))] [] ?_ ?_
      · simp -implicitDefEqProofs only [RUNS, qindex, Nat.reduceAdd, Nat.reduceLeDiff, Nat.reduceSub, reduceIte, Nat.reduceEqDiff, Nat.reduceLT, reduceCtorEq, Nat.reduceMul, Nat.reduceBEq, Int.reduceEq, if_true, if_false, eq_self, ne_eq, env_bT, T_3, Token.pv_eq, eqT_3]
      refine AW.seq ?_
      refine AW.cond (b := decide (i17 < (r7.length : Int))) rfl (fun hb21 => ?_) (fun hb21 => ?_)
      · replace h := bif_t hb21 h
        refine AW.skip ?_
        refine AW.seq ?_
        refine AW.block ?_
        refine AW.seq ?_
        refine AW.reg hS [(0, .pv (.str s1)), (3, .pv (.slice (List.map Token.pv r7))), (6, .pv (.int .i64 last16)), (7, .pv (.int .i64 i17)), (39, .pv (.int .i64 (r7.length : Int))), (40, .pv (.int .i64 i17))] [] ?_ ?_
        · simp -implicitDefEqProofs only [RUNS, qindex, Nat.reduceAdd, Nat.reduceLeDiff, Nat.reduceSub, reduceIte, Nat.reduceEqDiff, Nat.reduceLT, reduceCtorEq, Nat.reduceMul, Nat.reduceBEq, Int.reduceEq, if_true, if_false, eq_self, ne_eq, env_bT, Token.pv_eq]
        refine AW.seq ?_
        replace h := Option.bind_eq_some_iff.1 h; obtain ⟨u22, q23, h⟩ := h
        have f24 := lidx_f q23
        refine AW.reg hS [(0, .pv (.str s1)), (3, .pv (.slice (List.map Token.pv r7))), (6, .pv (.int .i64 last16)), (8, .ref 0 0), (39, .pv (.int .i64 (r7.length : Int))), (40, .pv (.int .i64 i17))] [.var [.pv (.int .i64 u22.kind_), .pv (.int .i64 u22.at_), .pv (.str u22.text_), .pv (.str u22.quoted_)]] ?_ ?_
        · simp -implicitDefEqProofs only [RUNS, qindex, Nat.reduceAdd, Nat.reduceLeDiff, Nat.reduceSub, reduceIte, Nat.reduceEqDiff, Nat.reduceLT, reduceCtorEq, Nat.reduceMul, Nat.reduceBEq, Int.reduceEq, if_true, if_false, eq_self, ne_eq, env_bT, T_24, T_30, Token.pv_eq, f24.1, f24.2.1]
        refine AW.seq ?_
        refine AW.seq ?_
        refine AW.reg hS [(0, .pv (.str s1)), (3, .pv (.slice (List.map Token.pv r7))), (8, .ref 0 0), (39, .pv (.int .i64 (r7.length : Int))), (40, .pv (.int .i64 i17)), (57, .pv (.bool (decide (u22.at_ < last16) || decide ((s1.length : Int) ≤ u22.at_))))] [.var [.pv (.int .i64 u22.kind_), .pv (.int .i64 u22.at_), .pv (.str u22.text_), .pv (.str u22.quoted_)]] ?_ ?_
        · clear h
          (simp -implicitDefEqProofs only [RUNS, qindex, Nat.reduceAdd, Nat.reduceLeDiff, Nat.reduceSub, reduceIte, Nat.reduceEqDiff, Nat.reduceLT, reduceCtorEq, Nat.reduceMul, Nat.reduceBEq, Int.reduceEq, if_true, if_false, eq_self, ne_eq, env_bT, T_3, T_9, T_30, Token.pv_eq, eqT_3]); repeat' (split <;> rename_i hb <;> (try simp only [HBS, ge_iff_le, gt_iff_lt] at hb) <;> simp -implicitDefEqProofs only [RUNS, qindex, Nat.reduceAdd, Nat.reduceLeDiff, Nat.reduceSub, reduceIte, Nat.reduceEqDiff, Nat.reduceLT, reduceCtorEq, Nat.reduceMul, Nat.reduceBEq, Int.reduceEq, if_true, if_false, eq_self, ne_eq, env_bT, T_3, T_9, T_30, Token.pv_eq, eqT_3, *, decide_true, decide_false, Decidable.not_not, not_false_eq_true, not_true_eq_false])
          all_goals (first | (simp only [BOOLS]; done) | (simp [*]; done) | ((try simp only [CLOS, beq_iff_eq, bne_iff_ne, ne_eq] at *) <;> omega) | (simp_all; done) | (simp_all <;> omega))
        refine AW.cond (b := (decide (u22.at_ < last16) || decide ((s1.length : Int) ≤ u22.at_))) rfl (fun hb25 => ?_) (fun hb25 => ?_)
        · replace h := bif_t hb25 h
          refine AW.seq ?_
          refine AW.reg hS [(2, .pv (.bool false))] [.var [.pv (.int .i64 u22.kind_), .pv (.int .i64 u22.at_), .pv (.str u22.text_), .pv (.str u22.quoted_)]] ?_ ?_
          · simp -implicitDefEqProofs only [RUNS, qindex, Nat.reduceAdd, Nat.reduceLeDiff, Nat.reduceSub, reduceIte, Nat.reduceEqDiff, Nat.reduceLT, reduceCtorEq, Nat.reduceMul, Nat.reduceBEq, Int.reduceEq, if_true, if_false, eq_self, ne_eq, env_bT, Token.pv_eq]
          refine AW.ret ?_
          cases h
          show finish _ _ _ _ _ = _
          first | rfl | (simp [finish, resOf, renArgs, toPV, selObjs, sl])
        · replace h := bif_f hb25 h
          refine AW.skip ?_
          refine AW.seq ?_
          refine AW.reg hS [(0, .pv (.str s1)), (3, .pv (.slice (List.map Token.pv r7))), (6, .pv (.int .i64 u22.at_)), (8, .ref 0 0), (39, .pv (.int .i64 (r7.length : Int))), (40, .pv (.int .i64 i17))] [.var [.pv (.int .i64 u22.kind_), .pv (.int .i64 u22.at_), .pv (.str u22.text_), .pv (.str u22.quoted_)]] ?_ ?_
          · simp -implicitDefEqProofs only [RUNS, qindex, Nat.reduceAdd, Nat.reduceLeDiff, Nat.reduceSub, reduceIte, Nat.reduceEqDiff, Nat.reduceLT, reduceCtorEq, Nat.reduceMul, Nat.reduceBEq, Int.reduceEq, if_true, if_false, eq_self, ne_eq, env_bT, T_3, T_30, Token.pv_eq]
          refine AW.seq ?_
          refine AW.seq ?_
          refine AW.reg hS [(0, .pv (.str s1)), (3, .pv (.slice (List.map Token.pv r7))), (6, .pv (.int .i64 u22.at_)), (8, .ref 0 0), (39, .pv (.int .i64 (r7.length : Int))), (40, .pv (.int .i64 i17)), (67, .pv (.bool (decide (u22.kind_ = 1) || decide (u22.kind_ = 4))))] [.var [.pv (.int .i64 u22.kind_), .pv (.int .i64 u22.at_), .pv (.str u22.text_), .pv (.str u22.quoted_)]] ?_ ?_
          · clear h
            (simp -implicitDefEqProofs only [RUNS, qindex, Nat.reduceAdd, Nat.reduceLeDiff, Nat.reduceSub, reduceIte, Nat.reduceEqDiff, Nat.reduceLT, reduceCtorEq, Nat.reduceMul, Nat.reduceBEq, Int.reduceEq, if_true, if_false, eq_self, ne_eq, env_bT, T_3, T_30, Token.pv_eq, eqT_3]); repeat' (split <;> rename_i hb <;> (try simp only [HBS, ge_iff_le, gt_iff_lt] at hb) <;> simp -implicitDefEqProofs only [RUNS, qindex, Nat.reduceAdd, Nat.reduceLeDiff, Nat.reduceSub, reduceIte, Nat.reduceEqDiff, Nat.reduceLT, reduceCtorEq, Nat.reduceMul, Nat.reduceBEq, Int.reduceEq, if_true, if_false, eq_self, ne_eq, env_bT, T_3, T_30, Token.pv_eq, eqT_3, *, decide_true, decide_false, Decidable.not_not, not_false_eq_true, not_true_eq_false])
            all_goals (first | (simp only [BOOLS]; done) | (simp [*]; done) | ((try simp only [CLOS, beq_iff_eq, bne_iff_ne, ne_eq] at *) <;> omega) | (simp_all; done) | (simp_all <;> omega))
          refine AW.cond (b := (decide (u22.kind_ = 1) || decide (u22.kind_ = 4))) rfl (fun hb26 => ?_) (fun hb26 => ?_)
          · replace h := bif_t hb26 h
            refine AW.seq ?_
            refine AW.seq ?_
            refine AW.reg hS [(0, .pv (.str s1)), (3, .pv (.slice (List.map Token.pv r7))), (6, .pv (.int .i64 u22.at_)), (39, .pv (.int .i64 (r7.length : Int))), (40, .pv (.int .i64 i17)), (74, .pv (.bool (!decide ((u22.quoted_.length : Int) = (u22.text_.length : Int)))))] [.var [.pv (.int .i64 u22.kind_), .pv (.int .i64 u22.at_), .pv (.str u22.text_), .pv (.str u22.quoted_)]] ?_ ?_
            · simp -implicitDefEqProofs only [RUNS, qindex, Nat.reduceAdd, Nat.reduceLeDiff, Nat.reduceSub, reduceIte, Nat.reduceEqDiff, Nat.reduceLT, reduceCtorEq, Nat.reduceMul, Nat.reduceBEq, Int.reduceEq, if_true, if_false, eq_self, ne_eq, env_bT, T_3, T_9, T_30, Token.pv_eq, eqT_3]
            refine AW.cond (b := !decide ((u22.quoted_.length : Int) = (u22.text_.length : Int))) rfl (fun hb27 => ?_) (fun hb27 => ?_)
            · replace h := bif_t hb27 h
              refine AW.seq ?_
              refine AW.reg hS [(2, .pv (.bool false))] [.var [.pv (.int .i64 u22.kind_), .pv (.int .i64 u22.at_), .pv (.str u22.text_), .pv (.str u22.quoted_)]] ?_ ?_
              · simp -implicitDefEqProofs only [RUNS, qindex, Nat.reduceAdd, Nat.reduceLeDiff, Nat.reduceSub, reduceIte, Nat.reduceEqDiff, Nat.reduceLT, reduceCtorEq, Nat.reduceMul, Nat.reduceBEq, Int.reduceEq, if_true, if_false, eq_self, ne_eq, env_bT, Token.pv_eq]
              refine AW.ret ?_
              cases h
              show finish _ _ _ _ _ = _
              first | rfl | (simp [finish, resOf, renArgs, toPV, selObjs, sl])
            · replace h := bif_f hb27 h
              refine AW.skip ?_
              refine AW.exit ?_
              refine AW.reg hS [(0, .pv (.str s1)), (3, .pv (.slice (List.map Token.pv r7))), (6, .pv (.int .i64 u22.at_)), (39, .pv (.int .i64 (r7.length : Int))), (40, .pv (.int .i64 (IntKind.wrap .i64 (i17 + 1))))] [.var [.pv (.int .i64 u22.kind_), .pv (.int .i64 u22.at_), .pv (.str u22.text_), .pv (.str u22.quoted_)]] ?_ ?_
              · simp -implicitDefEqProofs only [RUNS, qindex, Nat.reduceAdd, Nat.reduceLeDiff, Nat.reduceSub, reduceIte, Nat.reduceEqDiff, Nat.reduceLT, reduceCtorEq, Nat.reduceMul, Nat.reduceBEq, Int.reduceEq, if_true, if_false, eq_self, ne_eq, env_bT, T_3, Token.pv_eq, eqT_3]
              exact ⟨(m20, (u22.at_, IntKind.wrap .i64 (i17 + 1))), h, (Weak.norm (m := 0) (Nat.le_of_ble_eq_true rfl) ⟨rfl, rfl, rfl, rfl, rfl, trivial⟩ rfl rfl rfl), Nat.lt_succ_self _⟩
          · replace h := bif_f hb26 h
            refine AW.skip ?_
            refine AW.seq ?_
            replace h := Option.bind_eq_some_iff.1 h; obtain ⟨c28, q29, h⟩ := h
            have f30 := sidx_g (guardO_t q29)
            refine AW.reg hS [(0, .pv (.str s1)), (3, .pv (.slice (List.map Token.pv r7))), (6, .pv (.int .i64 u22.at_)), (8, .ref 0 0), (9, .pv (.bool (decide (u22.text_ = [94]) && !decide (c28 = 94)))), (39, .pv (.int .i64 (r7.length : Int))), (40, .pv (.int .i64 i17))] [.var [.pv (.int .i64 u22.kind_), .pv (.int .i64 u22.at_), .pv (.str u22.text_), .pv (.str u22.quoted_)]] ?_ ?_
            · clear h
              (simp -implicitDefEqProofs only [RUNS, qindex, Nat.reduceAdd, Nat.reduceLeDiff, Nat.reduceSub, reduceIte, Nat.reduceEqDiff, Nat.reduceLT, reduceCtorEq, Nat.reduceMul, Nat.reduceBEq, Int.reduceEq, if_true, if_false, eq_self, ne_eq, env_bT, T_3, T_5, T_9, T_30, Token.pv_eq, eqT_9, f30.1, f30.2.1, f30.2.2, eqT_5]); repeat' (split <;> rename_i hb <;> (try simp only [HBS, ge_iff_le, gt_iff_lt] at hb) <;> simp -implicitDefEqProofs only [RUNS, qindex, Nat.reduceAdd, Nat.reduceLeDiff, Nat.reduceSub, reduceIte, Nat.reduceEqDiff, Nat.reduceLT, reduceCtorEq, Nat.reduceMul, Nat.reduceBEq, Int.reduceEq, if_true, if_false, eq_self, ne_eq, env_bT, T_3, T_5, T_9, T_30, Token.pv_eq, eqT_9, f30.1, f30.2.1, f30.2.2, eqT_5, *, decide_true, decide_false, Decidable.not_not, not_false_eq_true, not_true_eq_false])
              all_goals (first | (simp only [BOOLS]; done) | (simp [*]; done) | ((try simp only [CLOS, beq_iff_eq, bne_iff_ne, ne_eq] at *) <;> omega) | (simp_all; done) | (simp_all <;> omega))
            refine AW.seq ?_
            replace h := Option.bind_eq_some_iff.1 h; obtain ⟨t31, q32, h⟩ := h
            have f33 := sslice_g (guardO_t q32)
            have f33e := f33.2.2.2.2
            try simp only [Int.toNat_natCast, Int.toNat_zero, List.drop_zero] at f33e
            have f33l := f33.2.2.1
            try simp only [Int.toNat_natCast, Int.toNat_zero] at f33l
            refine AW.dreg mixed hS (hpf ▸ (by kernel_rfl : orderOK pfn _ = true)) [(0, .pv (.str s1)), (3, .pv (.slice (List.map Token.pv r7))), (6, .pv (.int .i64 u22.at_)), (39, .pv (.int .i64 (r7.length : Int))), (40, .pv (.int .i64 i17)), (117, .pv (.bool (!decide (u22.quoted_ = []) || (!(decide (u22.text_ = [94]) && !decide (c28 = 94)) && (decide (IntKind.wrap .i64 ((s1.length : Int) - u22.at_) < (u22.text_.length : Int)) || !decide (t31 = u22.text_))))))] [.var [.pv (.int .i64 u22.kind_), .pv (.int .i64 u22.at_), .pv (.str u22.text_), .pv (.str u22.quoted_)]] ?_ ?_
            · clear h
              (simp -implicitDefEqProofs only [RUNS, qindex, Nat.reduceAdd, Nat.reduceLeDiff, Nat.reduceSub, reduceIte, Nat.reduceEqDiff, Nat.reduceLT, reduceCtorEq, Nat.reduceMul, Nat.reduceBEq, Int.reduceEq, if_true, if_false, eq_self, ne_eq, env_bT, T_3, T_9, T_30, Token.pv_eq, eqT_9, eqT_3, f33.1, f33.2.1, f33l, f33.2.2.2.1, f33e, Int.toNat_natCast, Int.toNat_zero]); repeat' (split <;> rename_i hb <;> (try simp only [HBS, ge_iff_le, gt_iff_lt] at hb) <;> simp -implicitDefEqProofs only [RUNS, qindex, Nat.reduceAdd, Nat.reduceLeDiff, Nat.reduceSub, reduceIte, Nat.reduceEqDiff, Nat.reduceLT, reduceCtorEq, Nat.reduceMul, Nat.reduceBEq, Int.reduceEq, if_true, if_false, eq_self, ne_eq, env_bT, T_3, T_9, T_30, Token.pv_eq, eqT_9, eqT_3, f33.1, f33.2.1, f33l, f33.2.2.2.1, f33e, Int.toNat_natCast, Int.toNat_zero, *, decide_true, decide_false, Decidable.not_not, not_false_eq_true, not_true_eq_false])
              all_goals (first | (simp only [BOOLS]; done) | (simp [*]; done) | ((try simp only [CLOS, beq_iff_eq, bne_iff_ne, ne_eq] at *) <;> omega) | (simp_all; done) | (simp_all <;> omega))
            refine AW.cond (b := (!decide (u22.quoted_ = []) || (!(decide (u22.text_ = [94]) && !decide (c28 = 94)) && (decide (IntKind.wrap .i64 ((s1.length : Int) - u22.at_) < (u22.text_.length : Int)) || !decide (t31 = u22.text_))))) rfl (fun hb34 => ?_) (fun hb34 => ?_)
            · replace h := bif_t hb34 h
              refine AW.seq ?_
              refine AW.reg hS [(2, .pv (.bool false))] [.var [.pv (.int .i64 u22.kind_), .pv (.int .i64 u22.at_), .pv (.str u22.text_), .pv (.str u22.quoted_)]] ?_ ?_
              · simp -implicitDefEqProofs only [RUNS, qindex, Nat.reduceAdd, Nat.reduceLeDiff, Nat.reduceSub, reduceIte, Nat.reduceEqDiff, Nat.reduceLT, reduceCtorEq, Nat.reduceMul, Nat.reduceBEq, Int.reduceEq, if_true, if_false, eq_self, ne_eq, env_bT, Token.pv_eq]
              refine AW.ret ?_
              cases h
              show finish _ _ _ _ _ = _
              first | rfl | (simp [finish, resOf, renArgs, toPV, selObjs, sl])
            · replace h := bif_f hb34 h
              refine AW.skip ?_
              refine AW.reg hS [(0, .pv (.str s1)), (3, .pv (.slice (List.map Token.pv r7))), (6, .pv (.int .i64 u22.at_)), (39, .pv (.int .i64 (r7.length : Int))), (40, .pv (.int .i64 (IntKind.wrap .i64 (i17 + 1))))] [.var [.pv (.int .i64 u22.kind_), .pv (.int .i64 u22.at_), .pv (.str u22.text_), .pv (.str u22.quoted_)]] ?_ ?_
              · simp -implicitDefEqProofs only [RUNS, qindex, Nat.reduceAdd, Nat.reduceLeDiff, Nat.reduceSub, reduceIte, Nat.reduceEqDiff, Nat.reduceLT, reduceCtorEq, Nat.reduceMul, Nat.reduceBEq, Int.reduceEq, if_true, if_false, eq_self, ne_eq, env_bT, T_3, Token.pv_eq, eqT_3]
              exact ⟨(m20, (u22.at_, IntKind.wrap .i64 (i17 + 1))), h, (Weak.norm (m := 0) (Nat.le_of_ble_eq_true rfl) ⟨rfl, rfl, rfl, rfl, rfl, trivial⟩ rfl rfl rfl), Nat.lt_succ_self _⟩
      · replace h := bif_f hb21 h
        refine AW.exit ?_
        refine AW.seq ?_
        replace h := Option.bind_eq_some_iff.1 h; obtain ⟨r35, q36, h⟩ := h
        have f37 := c_F8 r35 q36
        try dsimp only at f37
        refine AW.reg hS [(2, .pv (.bool r35))] [] ?_ ?_
        · simp -implicitDefEqProofs only [RUNS, qindex, Nat.reduceAdd, Nat.reduceLeDiff, Nat.reduceSub, reduceIte, Nat.reduceEqDiff, Nat.reduceLT, reduceCtorEq, Nat.reduceMul, Nat.reduceBEq, Int.reduceEq, if_true, if_false, eq_self, ne_eq, env_bT, Token.pv_eq, pf_8, f37]
        refine AW.ret ?_
        cases h
        show finish _ _ _ _ _ = _
        first | rfl | (simp [finish, resOf, renArgs, toPV, selObjs, sl])

set_option maxHeartbeats 4000000 in
theorem g_F17 {O : Orc} (hS : Sound env O) (hpf : O.pf = pfn) (l1 : List Token) (n2 : Int) (r3 : List Token) (h : F17 l1 n2 = some r3) : Good env 17 [.pv (.slice (List.map Token.pv l1)), .pv (.int .i64 n2)] [] [.pv (.slice (List.map Token.pv r3))] [] := by
  refine Good.start (fn := Tryd.f17) (N := 26) fn_17 rfl rfl (by simp) [] _ rfl rfl ?_
  rw [F17] at h
  refine AW.seq ?_
  refine AW.reg hS [(0, .pv (.slice (List.map Token.pv l1))), (1, .pv (.int .i64 n2))] [] ?_ ?_
  · simp -implicitDefEqProofs only [RUNS, qindex, Nat.reduceAdd, Nat.reduceLeDiff, Nat.reduceSub, reduceIte, Nat.reduceEqDiff, Nat.reduceLT, reduceCtorEq, Nat.reduceMul, Nat.reduceBEq, Int.reduceEq, if_true, if_false, eq_self, ne_eq, env_bT, Token.pv_eq]
  refine AW.seq ?_
  replace h := Option.bind_eq_some_iff.1 h; obtain ⟨out4, q5, h⟩ := h
  have f6 := appO_f q5
  try simp only [List.length_cons, List.length_nil, Nat.zero_add, Nat.reduceAdd, Nat.reduceLeDiff, Nat.add_zero, Nat.reduceMul] at f6
  refine AW.reg hS [(1, .pv (.int .i64 n2)), (5, .vec 0 (List.length out4))] [.row 30 4 (List.map Token.pv out4) false] ?_ ?_
  · simp -implicitDefEqProofs only [RUNS, qindex, Nat.reduceAdd, Nat.reduceLeDiff, Nat.reduceSub, reduceIte, Nat.reduceEqDiff, Nat.reduceLT, reduceCtorEq, Nat.reduceMul, Nat.reduceBEq, Int.reduceEq, if_true, if_false, eq_self, ne_eq, env_bT, T_24, T_30, Token.pv_eq, ownT_24, f6.1, f6.2, Token.all] <;> (try simp only [List.length_take, List.length_drop, List.length_map])
  clear f6
  refine AW.seq ?_
  refine AW.seq ?_
  refine AW.reg hS [(1, .pv (.int .i64 n2)), (5, .vec 0 (List.length out4)), (11, .pv (.int .i64 (out4.length : Int))), (12, .pv (.int .i64 0))] [.row 30 4 (List.map Token.pv out4) false] ?_ ?_
  · simp -implicitDefEqProofs only [RUNS, qindex, Nat.reduceAdd, Nat.reduceLeDiff, Nat.reduceSub, reduceIte, Nat.reduceEqDiff, Nat.reduceLT, reduceCtorEq, Nat.reduceMul, Nat.reduceBEq, Int.reduceEq, if_true, if_false, eq_self, ne_eq, env_bT, T_24, T_30, Token.pv_eq]
  refine AW.block ?_
  refine AW.weak (Weak.slots (L := [(1, .pv (.int .i64 n2)), (5, .vec 0 (List.length out4)), (11, .pv (.int .i64 (out4.length : Int))), (12, .pv (.int .i64 0))]) ⟨rfl, rfl, rfl, rfl, trivial⟩) ?_
  refine AW.loopI (α := Nat × Int × (List Token)) (fun (_, i7, l8) => ⟨sl [(1, .pv (.int .i64 n2)), (5, .vec 0 (List.length l8)), (11, .pv (.int .i64 (out4.length : Int))), (12, .pv (.int .i64 i7))], 26, [.row 30 4 (List.map Token.pv l8) false]⟩) (fun x => iter (F17_b1 out4 n2) x.1 x.2 = some r3) (fun x => x.1) (BIG, (0, out4)) h ?_
  clear h
  intro ⟨n16, i7, l8⟩ h
  replace h := iter_some h; obtain ⟨m11, rfl, h⟩ := h
  rw [F17_b1] at h
  try dsimp only at h
  show AW _ _ _ _ ⟨sl [(1, .pv (.int .i64 n2)), (5, .vec 0 (List.length l8)), (11, .pv (.int .i64 (out4.length : Int))), (12, .pv (.int .i64 i7))], 26, [.row 30 4 (List.map Token.pv l8) false]⟩
  refine AW.seq ?_
  refine AW.reg hS [(1, .pv (.int .i64 n2)), (5, .vec 0 (List.length l8)), (11, .pv (.int .i64 (out4.length : Int))), (12, .pv (.int .i64 i7)), (13, .pv (.bool (decide (i7 < (out4.length : Int)))))] [.row 30 4 (List.map Token.pv l8) false] ?_ ?_
  · simp -implicitDefEqProofs only [RUNS, qindex, Nat.reduceAdd, Nat.reduceLeDiff, Nat.reduceSub, reduceIte, Nat.reduceEqDiff, Nat.reduceLT, reduceCtorEq, Nat.reduceMul, Nat.reduceBEq, Int.reduceEq, if_true, if_false, eq_self, ne_eq, env_bT, T_3, Token.pv_eq, eqT_3]
  refine AW.seq ?_
  refine AW.cond (b := decide (i7 < (out4.length : Int))) rfl (fun hb12 => ?_) (fun hb12 => ?_)
  · replace h := bif_t hb12 h
    refine AW.skip ?_
    refine AW.seq ?_
    refine AW.block ?_
    refine AW.seq ?_
    refine AW.reg hS [(1, .pv (.int .i64 n2)), (5, .vec 0 (List.length l8)), (6, .pv (.int .i64 i7)), (11, .pv (.int .i64 (out4.length : Int))), (12, .pv (.int .i64 i7))] [.row 30 4 (List.map Token.pv l8) false] ?_ ?_
    · simp -implicitDefEqProofs only [RUNS, qindex, Nat.reduceAdd, Nat.reduceLeDiff, Nat.reduceSub, reduceIte, Nat.reduceEqDiff, Nat.reduceLT, reduceCtorEq, Nat.reduceMul, Nat.reduceBEq, Int.reduceEq, if_true, if_false, eq_self, ne_eq, env_bT, Token.pv_eq]
    replace h := Option.bind_eq_some_iff.1 h; obtain ⟨u13, q14, h⟩ := h
    have f15 := lidx_f q14
    refine AW.reg hS [(1, .pv (.int .i64 n2)), (5, .vec 0 (List.length (List.set l8 (Int.toNat i7) (Token.mk u13.kind_ (IntKind.wrap .i64 (u13.at_ + n2)) u13.text_ u13.quoted_)))), (11, .pv (.int .i64 (out4.length : Int))), (12, .pv (.int .i64 i7))] [.row 30 4 (List.map Token.pv (List.set l8 (Int.toNat i7) (Token.mk u13.kind_ (IntKind.wrap .i64 (u13.at_ + n2)) u13.text_ u13.quoted_))) false] ?_ ?_
    · simp -implicitDefEqProofs only [RUNS, qindex, Nat.reduceAdd, Nat.reduceLeDiff, Nat.reduceSub, reduceIte, Nat.reduceEqDiff, Nat.reduceLT, reduceCtorEq, Nat.reduceMul, Nat.reduceBEq, Int.reduceEq, if_true, if_false, eq_self, ne_eq, env_bT, T_3, T_24, T_30, Token.pv_eq, f15.1, f15.2.1, f15.2.2, eqT_3]
    refine AW.reg hS [(1, .pv (.int .i64 n2)), (5, .vec 0 (List.length (List.set l8 (Int.toNat i7) (Token.mk u13.kind_ (IntKind.wrap .i64 (u13.at_ + n2)) u13.text_ u13.quoted_)))), (11, .pv (.int .i64 (out4.length : Int))), (12, .pv (.int .i64 (IntKind.wrap .i64 (i7 + 1))))] [.row 30 4 (List.map Token.pv (List.set l8 (Int.toNat i7) (Token.mk u13.kind_ (IntKind.wrap .i64 (u13.at_ + n2)) u13.text_ u13.quoted_))) false] ?_ ?_
    · simp -implicitDefEqProofs only [RUNS, qindex, Nat.reduceAdd, Nat.reduceLeDiff, Nat.reduceSub, reduceIte, Nat.reduceEqDiff, Nat.reduceLT, reduceCtorEq, Nat.reduceMul, Nat.reduceBEq, Int.reduceEq, if_true, if_false, eq_self, ne_eq, env_bT, T_3, Token.pv_eq, eqT_3]
    exact ⟨(m11, (IntKind.wrap .i64 (i7 + 1), List.set l8 (Int.toNat i7) (Token.mk u13.kind_ (IntKind.wrap .i64 (u13.at_ + n2)) u13.text_ u13.quoted_))), h, (Weak.norm (m := 1) (Nat.le_of_ble_eq_true rfl) ⟨rfl, rfl, rfl, rfl, trivial⟩ rfl rfl rfl), Nat.lt_succ_self _⟩
  · replace h := bif_f hb12 h
    refine AW.exit ?_
    refine AW.seq ?_
    refine AW.reg hS [(4, .vec 0 (List.length l8))] [.row 30 4 (List.map Token.pv l8) false] ?_ ?_
    · simp -implicitDefEqProofs only [RUNS, qindex, Nat.reduceAdd, Nat.reduceLeDiff, Nat.reduceSub, reduceIte, Nat.reduceEqDiff, Nat.reduceLT, reduceCtorEq, Nat.reduceMul, Nat.reduceBEq, Int.reduceEq, if_true, if_false, eq_self, ne_eq, env_bT, Token.pv_eq]
    refine AW.weak (Weak.freeze 0 rfl) ?_
    refine AW.weak (σ' := ⟨sl [(4, .vec 0 (List.length l8))], 26, [.row 30 4 (List.map Token.pv l8) true]⟩) (Weak.slots ⟨rfl, trivial⟩) ?_
    refine AW.ret ?_
    cases h
    show finish _ _ _ _ _ = _
    first | rfl | (simp [finish, resOf, renArgs, toPV, selObjs, sl])

set_option maxHeartbeats 4000000 in
theorem g_F16 {O : Orc} (hS : Sound env O) (hpf : O.pf = pfn) (a1 : List Token) (b2 : List Token) (r3 : Bool) (h : F16 a1 b2 = some r3) : Good env 16 [.pv (.slice (List.map Token.pv a1)), .pv (.slice (List.map Token.pv b2))] [] [.pv (.bool r3)] [] := by
  refine Good.start (fn := Tryd.f16) (N := 26) fn_16 rfl rfl (by simp) [] _ rfl rfl ?_
  rw [F16] at h
  refine AW.seq ?_
  refine AW.reg hS [(0, .pv (.slice (List.map Token.pv a1))), (1, .pv (.slice (List.map Token.pv b2)))] [] ?_ ?_
  · simp -implicitDefEqProofs only [RUNS, qindex, Nat.reduceAdd, Nat.reduceLeDiff, Nat.reduceSub, reduceIte, Nat.reduceEqDiff, Nat.reduceLT, reduceCtorEq, Nat.reduceMul, Nat.reduceBEq, Int.reduceEq, if_true, if_false, eq_self, ne_eq, env_bT, Token.pv_eq]
  refine AW.seq ?_
  refine AW.seq ?_
  refine AW.reg hS [(0, .pv (.slice (List.map Token.pv a1))), (1, .pv (.slice (List.map Token.pv b2))), (10, .pv (.bool (!decide ((a1.length : Int) = (b2.length : Int)))))] [] ?_ ?_
  · simp -implicitDefEqProofs only [RUNS, qindex, Nat.reduceAdd, Nat.reduceLeDiff, Nat.reduceSub, reduceIte, Nat.reduceEqDiff, Nat.reduceLT, reduceCtorEq, Nat.reduceMul, Nat.reduceBEq, Int.reduceEq, if_true, if_false, eq_self, ne_eq, env_bT, T_3, T_24, T_30, Token.pv_eq, eqT_3]
  refine AW.cond (b := !decide ((a1.length : Int) = (b2.length : Int))) rfl (fun hb4 => ?_) (fun hb4 => ?_)
  · replace h := bif_t hb4 h
    refine AW.seq ?_
    refine AW.reg hS [(4, .pv (.bool false))] [] ?_ ?_
    · simp -implicitDefEqProofs only [RUNS, qindex, Nat.reduceAdd, Nat.reduceLeDiff, Nat.reduceSub, reduceIte, Nat.reduceEqDiff, Nat.reduceLT, reduceCtorEq, Nat.reduceMul, Nat.reduceBEq, Int.reduceEq, if_true, if_false, eq_self, ne_eq, env_bT, Token.pv_eq]
    refine AW.ret ?_
    cases h
    show finish _ _ _ _ _ = _
    first | rfl | (simp [finish, resOf, renArgs, toPV, selObjs, sl])
  · replace h := bif_f hb4 h
    refine AW.skip ?_
    refine AW.seq ?_
    refine AW.seq ?_
    refine AW.reg hS [(0, .pv (.slice (List.map Token.pv a1))), (1, .pv (.slice (List.map Token.pv b2))), (5, .pv (.int .i64 0))] [] ?_ ?_
    · simp -implicitDefEqProofs only [RUNS, qindex, Nat.reduceAdd, Nat.reduceLeDiff, Nat.reduceSub, reduceIte, Nat.reduceEqDiff, Nat.reduceLT, reduceCtorEq, Nat.reduceMul, Nat.reduceBEq, Int.reduceEq, if_true, if_false, eq_self, ne_eq, env_bT, Token.pv_eq]
    refine AW.block ?_
    refine AW.weak (Weak.slots (L := [(0, .pv (.slice (List.map Token.pv a1))), (1, .pv (.slice (List.map Token.pv b2))), (5, .pv (.int .i64 0))]) ⟨rfl, rfl, rfl, trivial⟩) ?_
    refine AW.loopI (α := Nat × Int) (fun (_, i5) => ⟨sl [(0, .pv (.slice (List.map Token.pv a1))), (1, .pv (.slice (List.map Token.pv b2))), (5, .pv (.int .i64 i5))], 26, []⟩) (fun x => iter (F16_b1 a1 b2) x.1 x.2 = some r3) (fun x => x.1) (BIG, 0) h ?_
    clear h
    intro ⟨n17, i5⟩ h
    replace h := iter_some h; obtain ⟨m8, rfl, h⟩ := h
    rw [F16_b1] at h
    try dsimp only at h
    show AW _ _ _ _ ⟨sl [(0, .pv (.slice (List.map Token.pv a1))), (1, .pv (.slice (List.map Token.pv b2))), (5, .pv (.int .i64 i5))], 26, []⟩
    refine AW.seq ?_
    refine AW.seq ?_
    refine AW.reg hS [(0, .pv (.slice (List.map Token.pv a1))), (1, .pv (.slice (List.map Token.pv b2))), (5, .pv (.int .i64 i5)), (14, .pv (.bool (decide (i5 < (a1.length : Int)))))] [] ?_ ?_
    · simp -implicitDefEqProofs only [RUNS, qindex, Nat.reduceAdd, Nat.reduceLeDiff, Nat.reduceSub, reduceIte, Nat.reduceEqDiff, Nat.reduceLT, reduceCtorEq, Nat.reduceMul, Nat.reduceBEq, Int.reduceEq, if_true, if_false, eq_self, ne_eq, env_bT, T_3, T_24, T_30, Token.pv_eq, eqT_3]
    refine AW.cond (b := decide (i5 < (a1.length : Int))) rfl (fun hb9 => ?_) (fun hb9 => ?_)
    · replace h := bif_t hb9 h
      refine AW.skip ?_
      refine AW.seq ?_
      refine AW.block ?_
      refine AW.seq ?_
      replace h := Option.bind_eq_some_iff.1 h; obtain ⟨u10, q11, h⟩ := h
      have f12 := lidx_f q11
      replace h := Option.bind_eq_some_iff.1 h; obtain ⟨u13, q14, h⟩ := h
      have f15 := lidx_f q14
      refine AW.dreg mixed hS (hpf ▸ (by kernel_rfl : orderOK pfn _ = true)) [(0, .pv (.slice (List.map Token.pv a1))), (1, .pv (.slice (List.map Token.pv b2))), (5, .pv (.int .i64 i5)), (25, .pv (.bool (!(decide (u10.kind_ = u13.kind_) && (decide (u10.at_ = u13.at_) && (decide (u10.text_ = u13.text_) && (decide (u10.quoted_ = u13.quoted_))))))))] [] ?_ ?_
      · simp -implicitDefEqProofs only [RUNS, qindex, Nat.reduceAdd, Nat.reduceLeDiff, Nat.reduceSub, reduceIte, Nat.reduceEqDiff, Nat.reduceLT, reduceCtorEq, Nat.reduceMul, Nat.reduceBEq, Int.reduceEq, if_true, if_false, eq_self, ne_eq, env_bT, T_24, T_30, Token.pv_eq, f12.1, f12.2.1, f15.1, f15.2.1, eqT_30]
      refine AW.cond (b := !(decide (u10.kind_ = u13.kind_) && (decide (u10.at_ = u13.at_) && (decide (u10.text_ = u13.text_) && (decide (u10.quoted_ = u13.quoted_)))))) rfl (fun hb16 => ?_) (fun hb16 => ?_)
      · replace h := bif_t hb16 h
        refine AW.seq ?_
        refine AW.reg hS [(4, .pv (.bool false))] [] ?_ ?_
        · simp -implicitDefEqProofs only [RUNS, qindex, Nat.reduceAdd, Nat.reduceLeDiff, Nat.reduceSub, reduceIte, Nat.reduceEqDiff, Nat.reduceLT, reduceCtorEq, Nat.reduceMul, Nat.reduceBEq, Int.reduceEq, if_true, if_false, eq_self, ne_eq, env_bT, Token.pv_eq]
        refine AW.ret ?_
        cases h
        show finish _ _ _ _ _ = _
        first | rfl | (simp [finish, resOf, renArgs, toPV, selObjs, sl])
      · replace h := bif_f hb16 h
        refine AW.skip ?_
        refine AW.reg hS [(0, .pv (.slice (List.map Token.pv a1))), (1, .pv (.slice (List.map Token.pv b2))), (5, .pv (.int .i64 (IntKind.wrap .i64 (i5 + 1))))] [] ?_ ?_
        · simp -implicitDefEqProofs only [RUNS, qindex, Nat.reduceAdd, Nat.reduceLeDiff, Nat.reduceSub, reduceIte, Nat.reduceEqDiff, Nat.reduceLT, reduceCtorEq, Nat.reduceMul, Nat.reduceBEq, Int.reduceEq, if_true, if_false, eq_self, ne_eq, env_bT, T_3, Token.pv_eq, eqT_3]
        exact ⟨(m8, IntKind.wrap .i64 (i5 + 1)), h, (Weak.norm (m := 0) (Nat.le_of_ble_eq_true rfl) ⟨rfl, rfl, rfl, trivial⟩ rfl rfl rfl), Nat.lt_succ_self _⟩
    · replace h := bif_f hb9 h
      refine AW.exit ?_
      refine AW.seq ?_
      refine AW.reg hS [(4, .pv (.bool true))] [] ?_ ?_
      · simp -implicitDefEqProofs only [RUNS, qindex, Nat.reduceAdd, Nat.reduceLeDiff, Nat.reduceSub, reduceIte, Nat.reduceEqDiff, Nat.reduceLT, reduceCtorEq, Nat.reduceMul, Nat.reduceBEq, Int.reduceEq, if_true, if_false, eq_self, ne_eq, env_bT, Token.pv_eq]
      refine AW.ret ?_
      cases h
      show finish _ _ _ _ _ = _
      first | rfl | (simp [finish, resOf, renArgs, toPV, selObjs, sl])

set_option maxHeartbeats 4000000 in
theorem g_F6 {O : Orc} (hS : Sound env O) (hpf : O.pf = pfn) (c_F8 : C_F8 O) (c_F10 : C_F10 O) (c_F17 : C_F17 O) (c_F16 : C_F16 O) (s1 : Str) (which2 : Int) (r3 : Bool) (h : F6 s1 which2 = some r3) : Good env 6 [.pv (.str s1), .pv (.int .u8 which2)] [] [.pv (.bool r3)] [] := by
  have pf_8 : O.pf 8 = true := by rw [hpf]; rfl
  have pf_10 : O.pf 10 = true := by rw [hpf]; rfl
  have pf_16 : O.pf 16 = true := by rw [hpf]; rfl
  have pf_17 : O.pf 17 = true := by rw [hpf]; rfl
  refine Good.start (fn := Tryd.f6) (N := 62) fn_6 rfl rfl (by simp) [] _ rfl rfl ?_
  rw [F6] at h
  refine AW.seq ?_
  refine AW.reg hS [(0, .pv (.str s1)), (1, .pv (.int .u8 which2))] [] ?_ ?_
  · simp -implicitDefEqProofs only [RUNS, qindex, Nat.reduceAdd, Nat.reduceLeDiff, Nat.reduceSub, reduceIte, Nat.reduceEqDiff, Nat.reduceLT, reduceCtorEq, Nat.reduceMul, Nat.reduceBEq, Int.reduceEq, if_true, if_false, eq_self, ne_eq, env_bT, Token.pv_eq]
  refine AW.seq ?_
  refine AW.seq ?_
  refine AW.reg hS [(0, .pv (.str s1)), (1, .pv (.int .u8 which2)), (14, .pv (.bool (decide (3000 < (s1.length : Int)))))] [] ?_ ?_
  · simp -implicitDefEqProofs only [RUNS, qindex, Nat.reduceAdd, Nat.reduceLeDiff, Nat.reduceSub, reduceIte, Nat.reduceEqDiff, Nat.reduceLT, reduceCtorEq, Nat.reduceMul, Nat.reduceBEq, Int.reduceEq, if_true, if_false, eq_self, ne_eq, env_bT, T_3, T_9, Token.pv_eq, eqT_3]
  refine AW.cond (b := decide (3000 < (s1.length : Int))) rfl (fun hb4 => ?_) (fun hb4 => ?_)
  · replace h := bif_t hb4 h
    refine AW.seq ?_
    replace h := Option.bind_eq_some_iff.1 h; obtain ⟨r5, q6, h⟩ := h
    have f7 := c_F8 r5 q6
    try dsimp only at f7
    refine AW.reg hS [(4, .pv (.bool r5))] [] ?_ ?_
    · simp -implicitDefEqProofs only [RUNS, qindex, Nat.reduceAdd, Nat.reduceLeDiff, Nat.reduceSub, reduceIte, Nat.reduceEqDiff, Nat.reduceLT, reduceCtorEq, Nat.reduceMul, Nat.reduceBEq, Int.reduceEq, if_true, if_false, eq_self, ne_eq, env_bT, Token.pv_eq, pf_8, f7]
    refine AW.ret ?_
    cases h
    show finish _ _ _ _ _ = _
    first | rfl | (simp [finish, resOf, renArgs, toPV, selObjs, sl])
  · replace h := bif_f hb4 h
    refine AW.skip ?_
    refine AW.seq ?_
    refine AW.reg hS [(0, .pv (.str s1)), (1, .pv (.int .u8 which2)), (5, .pv (.str [32]))] [] ?_ ?_
    · simp -implicitDefEqProofs only [RUNS, qindex, Nat.reduceAdd, Nat.reduceLeDiff, Nat.reduceSub, reduceIte, Nat.reduceEqDiff, Nat.reduceLT, reduceCtorEq, Nat.reduceMul, Nat.reduceBEq, Int.reduceEq, if_true, if_false, eq_self, ne_eq, env_bT, Token.pv_eq]
    refine AW.seqM ⟨sl [(0, .pv (.str s1)), (1, .pv (.int .u8 which2)), (5, .pv (.str (bif decide (Int.tmod which2 3 = 1) then [9] else [32])))], 62, []⟩ ?_ ?_
    · refine AW.seq ?_
      refine AW.reg hS [(0, .pv (.str s1)), (1, .pv (.int .u8 which2)), (5, .pv (.str [32])), (18, .pv (.bool (decide (Int.tmod which2 3 = 1))))] [] ?_ ?_
      · simp -implicitDefEqProofs only [RUNS, qindex, Nat.reduceAdd, Nat.reduceLeDiff, Nat.reduceSub, reduceIte, Nat.reduceEqDiff, Nat.reduceLT, reduceCtorEq, Nat.reduceMul, Nat.reduceBEq, Int.reduceEq, if_true, if_false, eq_self, ne_eq, env_bT, T_5, Token.pv_eq, eqT_5, (show ((3 : Int) = 0) = False from by decide)]
      refine AW.cond (b := decide (Int.tmod which2 3 = 1)) rfl (fun hb8 => ?_) (fun hb8 => ?_)
      · refine AW.reg hS [(0, .pv (.str s1)), (1, .pv (.int .u8 which2)), (5, .pv (.str [9]))] [] ?_ ?_
        · simp -implicitDefEqProofs only [RUNS, qindex, Nat.reduceAdd, Nat.reduceLeDiff, Nat.reduceSub, reduceIte, Nat.reduceEqDiff, Nat.reduceLT, reduceCtorEq, Nat.reduceMul, Nat.reduceBEq, Int.reduceEq, if_true, if_false, eq_self, ne_eq, env_bT, Token.pv_eq]
        exact Weak.of_eq (Weak.slots (L := [(0, .pv (.str s1)), (1, .pv (.int .u8 which2)), (5, .pv (.str [9]))]) ⟨rfl, rfl, rfl, trivial⟩) (by simp only [hb8, cond_true, cond_false, Bool.true_or, Bool.false_or, Bool.true_and, Bool.false_and, Bool.or_true, Bool.or_false, Bool.and_true, Bool.and_false, Bool.not_true, Bool.not_false])
      · refine AW.skip ?_
        exact Weak.of_eq (Weak.slots (L := [(0, .pv (.str s1)), (1, .pv (.int .u8 which2)), (5, .pv (.str [32]))]) ⟨rfl, rfl, rfl, trivial⟩) (by simp only [hb8, cond_true, cond_false, Bool.true_or, Bool.false_or, Bool.true_and, Bool.false_and, Bool.or_true, Bool.or_false, Bool.and_true, Bool.and_false, Bool.not_true, Bool.not_false])
    refine AW.seqM ⟨sl [(0, .pv (.str s1)), (5, .pv (.str (bif decide (Int.tmod which2 3 = 2) then [92, 10] else (bif decide (Int.tmod which2 3 = 1) then [9] else [32]))))], 62, []⟩ ?_ ?_
    · refine AW.seq ?_
      refine AW.reg hS [(0, .pv (.str s1)), (5, .pv (.str (bif decide (Int.tmod which2 3 = 1) then [9] else [32]))), (21, .pv (.bool (decide (Int.tmod which2 3 = 2))))] [] ?_ ?_
      · simp -implicitDefEqProofs only [RUNS, qindex, Nat.reduceAdd, Nat.reduceLeDiff, Nat.reduceSub, reduceIte, Nat.reduceEqDiff, Nat.reduceLT, reduceCtorEq, Nat.reduceMul, Nat.reduceBEq, Int.reduceEq, if_true, if_false, eq_self, ne_eq, env_bT, T_5, Token.pv_eq, eqT_5, (show ((3 : Int) = 0) = False from by decide)]
      refine AW.cond (b := decide (Int.tmod which2 3 = 2)) rfl (fun hb9 => ?_) (fun hb9 => ?_)
      · refine AW.reg hS [(0, .pv (.str s1)), (5, .pv (.str [92, 10]))] [] ?_ ?_
        · simp -implicitDefEqProofs only [RUNS, qindex, Nat.reduceAdd, Nat.reduceLeDiff, Nat.reduceSub, reduceIte, Nat.reduceEqDiff, Nat.reduceLT, reduceCtorEq, Nat.reduceMul, Nat.reduceBEq, Int.reduceEq, if_true, if_false, eq_self, ne_eq, env_bT, Token.pv_eq]
        exact Weak.of_eq (Weak.slots (L := [(0, .pv (.str s1)), (5, .pv (.str [92, 10]))]) ⟨rfl, rfl, trivial⟩) (by simp only [hb9, cond_true, cond_false, Bool.true_or, Bool.false_or, Bool.true_and, Bool.false_and, Bool.or_true, Bool.or_false, Bool.and_true, Bool.and_false, Bool.not_true, Bool.not_false])
      · refine AW.skip ?_
        exact Weak.of_eq (Weak.slots (L := [(0, .pv (.str s1)), (5, .pv (.str (bif decide (Int.tmod which2 3 = 1) then [9] else [32])))]) ⟨rfl, rfl, trivial⟩) (by simp only [hb9, cond_true, cond_false, Bool.true_or, Bool.false_or, Bool.true_and, Bool.false_and, Bool.or_true, Bool.or_false, Bool.and_true, Bool.and_false, Bool.not_true, Bool.not_false])
    refine AW.seq ?_
    replace h := Option.bind_eq_some_iff.1 h; obtain ⟨⟨r10, r11, r12⟩, q13, h⟩ := h
    dsimp only at h
    have f14 := c_F10 s1 r10 r11 r12 q13
    try dsimp only at f14
    refine AW.reg hS [(0, .pv (.str s1)), (5, .pv (.str (bif decide (Int.tmod which2 3 = 2) then [92, 10] else (bif decide (Int.tmod which2 3 = 1) then [9] else [32])))), (6, .pv (.slice (List.map Token.pv r10))), (7, .pv (.int .i64 r11)), (8, .pv (.int .i64 r12))] [] ?_ ?_
    · simp -implicitDefEqProofs only [RUNS, qindex, Nat.reduceAdd, Nat.reduceLeDiff, Nat.reduceSub, reduceIte, Nat.reduceEqDiff, Nat.reduceLT, reduceCtorEq, Nat.reduceMul, Nat.reduceBEq, Int.reduceEq, if_true, if_false, eq_self, ne_eq, env_bT, T_9, Token.pv_eq, pf_10, f14]
    refine AW.seq ?_
    replace h := Option.bind_eq_some_iff.1 h; obtain ⟨s15, q16, h⟩ := h
    have f17 := catO_f q16
    try simp only [List.length_cons, List.length_nil, Nat.zero_add, Nat.reduceAdd, Nat.reduceLeDiff, Nat.add_zero, Nat.reduceMul] at f17
    replace h := Option.bind_eq_some_iff.1 h; obtain ⟨⟨r18, r19, r20⟩, q21, h⟩ := h
    dsimp only at h
    have f22 := c_F10 s15 r18 r19 r20 q21
    try dsimp only at f22
    refine AW.reg hS [(5, .pv (.str (bif decide (Int.tmod which2 3 = 2) then [92, 10] else (bif decide (Int.tmod which2 3 = 1) then [9] else [32])))), (6, .pv (.slice (List.map Token.pv r10))), (7, .pv (.int .i64 r11)), (8, .pv (.int .i64 r12)), (9, .pv (.slice (List.map Token.pv r18))), (10, .pv (.int .i64 r19)), (11, .pv (.int .i64 r20))] [] ?_ ?_
    · simp -implicitDefEqProofs only [RUNS, qindex, Nat.reduceAdd, Nat.reduceLeDiff, Nat.reduceSub, reduceIte, Nat.reduceEqDiff, Nat.reduceLT, reduceCtorEq, Nat.reduceMul, Nat.reduceBEq, Int.reduceEq, if_true, if_false, eq_self, ne_eq, env_bT, T_9, Token.pv_eq, eqT_9, f17.1, f17.2, pf_10, f22]
    refine AW.seq ?_
    replace h := Option.bind_eq_some_iff.1 h; obtain ⟨r23, q24, h⟩ := h
    have f25 := fun hg => c_F17 r10 (((bif decide (Int.tmod which2 3 = 2) then [92, 10] else (bif decide (Int.tmod which2 3 = 1) then [9] else [32])) : Str).length : Int) r23 (guardO_t q24 hg)
    try dsimp only at f25
    replace h := Option.bind_eq_some_iff.1 h; obtain ⟨r26, q27, h⟩ := h
    have f28 := fun hg => c_F16 r23 r18 r26 (guardO_t q27 hg)
    try dsimp only at f28
    replace h := Option.bind_eq_some_iff.1 h; obtain ⟨r29, q30, h⟩ := h
    have f31 := fun hg => c_F8 r29 (guardO_t q30 hg)
    try dsimp only at f31
    refine AW.reg hS [(4, .pv (.bool (((decide (r12 = r20) && r26) && (decide (r12 = 0) || decide (r19 = IntKind.wrap .i64 (r11 + (((bif decide (Int.tmod which2 3 = 2) then [92, 10] else (bif decide (Int.tmod which2 3 = 1) then [9] else [32])) : Str).length : Int))))) && r29)))] [] ?_ ?_
    · clear h
      (simp -implicitDefEqProofs only [RUNS, qindex, Nat.reduceAdd, Nat.reduceLeDiff, Nat.reduceSub, reduceIte, Nat.reduceEqDiff, Nat.reduceLT, reduceCtorEq, Nat.reduceMul, Nat.reduceBEq, Int.reduceEq, if_true, if_false, eq_self, ne_eq, env_bT, T_3, T_9, T_24, T_25, T_30, Token.pv_eq, eqT_25, pf_17, f25, pf_16, f28, eqT_3, pf_8, f31]); repeat' (split <;> rename_i hb <;> (try simp only [HBS, ge_iff_le, gt_iff_lt] at hb) <;> simp -implicitDefEqProofs only [RUNS, qindex, Nat.reduceAdd, Nat.reduceLeDiff, Nat.reduceSub, reduceIte, Nat.reduceEqDiff, Nat.reduceLT, reduceCtorEq, Nat.reduceMul, Nat.reduceBEq, Int.reduceEq, if_true, if_false, eq_self, ne_eq, env_bT, T_3, T_9, T_24, T_25, T_30, Token.pv_eq, eqT_25, pf_17, f25, pf_16, f28, eqT_3, pf_8, f31, *, decide_true, decide_false, Decidable.not_not, not_false_eq_true, not_true_eq_false])
      all_goals (first | (simp only [BOOLS]; done) | (simp [*]; done) | ((try simp only [CLOS, beq_iff_eq, bne_iff_ne, ne_eq] at *) <;> omega) | (simp_all; done) | (simp_all <;> omega))
    refine AW.ret ?_
    cases h
    show finish _ _ _ _ _ = _
    first | rfl | (simp [finish, resOf, renArgs, toPV, selObjs, sl])

set_option maxHeartbeats 4000000 in
theorem g_F7 {O : Orc} (hS : Sound env O) (hpf : O.pf = pfn) (c_F8 : C_F8 O) (c_F10 : C_F10 O) (c_F17 : C_F17 O) (c_F16 : C_F16 O) (a1 : Str) (b2 : Str) (r3 : Bool) (h : F7 a1 b2 = some r3) : Good env 7 [.pv (.str a1), .pv (.str b2)] [] [.pv (.bool r3)] [] := by
  have pf_8 : O.pf 8 = true := by rw [hpf]; rfl
  have pf_10 : O.pf 10 = true := by rw [hpf]; rfl
  have pf_16 : O.pf 16 = true := by rw [hpf]; rfl
  have pf_17 : O.pf 17 = true := by rw [hpf]; rfl
  refine Good.start (fn := Tryd.f7) (N := 113) fn_7 rfl rfl (by simp) [] _ rfl rfl ?_
  rw [F7] at h
  refine AW.seq ?_
  refine AW.reg hS [(0, .pv (.str a1)), (1, .pv (.str b2))] [] ?_ ?_
  · simp -implicitDefEqProofs only [RUNS, qindex, Nat.reduceAdd, Nat.reduceLeDiff, Nat.reduceSub, reduceIte, Nat.reduceEqDiff, Nat.reduceLT, reduceCtorEq, Nat.reduceMul, Nat.reduceBEq, Int.reduceEq, if_true, if_false, eq_self, ne_eq, env_bT, Token.pv_eq]
  refine AW.seq ?_
  refine AW.seq ?_
  replace h := Option.bind_eq_some_iff.1 h; obtain ⟨c4, q5, h⟩ := h
  have f6 := sidx_g (guardO_t q5)
  refine AW.reg hS [(0, .pv (.str a1)), (1, .pv (.str b2)), (36, .pv (.bool ((decide (1000 < (a1.length : Int)) || decide (1000 < (b2.length : Int))) || (decide (0 < (a1.length : Int)) && decide (c4 = 92)))))] [] ?_ ?_
  · clear h
    (simp -implicitDefEqProofs only [RUNS, qindex, Nat.reduceAdd, Nat.reduceLeDiff, Nat.reduceSub, reduceIte, Nat.reduceEqDiff, Nat.reduceLT, reduceCtorEq, Nat.reduceMul, Nat.reduceBEq, Int.reduceEq, if_true, if_false, eq_self, ne_eq, env_bT, T_3, T_5, T_9, Token.pv_eq, eqT_3, f6.1, f6.2.1, f6.2.2, eqT_5]); repeat' (split <;> rename_i hb <;> (try simp only [HBS, ge_iff_le, gt_iff_lt] at hb) <;> simp -implicitDefEqProofs only [RUNS, qindex, Nat.reduceAdd, Nat.reduceLeDiff, Nat.reduceSub, reduceIte, Nat.reduceEqDiff, Nat.reduceLT, reduceCtorEq, Nat.reduceMul, Nat.reduceBEq, Int.reduceEq, if_true, if_false, eq_self, ne_eq, env_bT, T_3, T_5, T_9, Token.pv_eq, eqT_3, f6.1, f6.2.1, f6.2.2, eqT_5, *, decide_true, decide_false, Decidable.not_not, not_false_eq_true, not_true_eq_false])
    all_goals (first | (simp only [BOOLS]; done) | (simp [*]; done) | ((try simp only [CLOS, beq_iff_eq, bne_iff_ne, ne_eq] at *) <;> omega) | (simp_all; done) | (simp_all <;> omega))
  refine AW.cond (b := ((decide (1000 < (a1.length : Int)) || decide (1000 < (b2.length : Int))) || (decide (0 < (a1.length : Int)) && decide (c4 = 92)))) rfl (fun hb7 => ?_) (fun hb7 => ?_)
  · replace h := bif_t hb7 h
    refine AW.seq ?_
    replace h := Option.bind_eq_some_iff.1 h; obtain ⟨r8, q9, h⟩ := h
    have f10 := c_F8 r8 q9
    try dsimp only at f10
    refine AW.reg hS [(4, .pv (.bool r8))] [] ?_ ?_
    · simp -implicitDefEqProofs only [RUNS, qindex, Nat.reduceAdd, Nat.reduceLeDiff, Nat.reduceSub, reduceIte, Nat.reduceEqDiff, Nat.reduceLT, reduceCtorEq, Nat.reduceMul, Nat.reduceBEq, Int.reduceEq, if_true, if_false, eq_self, ne_eq, env_bT, Token.pv_eq, pf_8, f10]
    refine AW.ret ?_
    cases h
    show finish _ _ _ _ _ = _
    first | rfl | (simp [finish, resOf, renArgs, toPV, selObjs, sl])
  · replace h := bif_f hb7 h
    refine AW.skip ?_
    refine AW.seq ?_
    replace h := Option.bind_eq_some_iff.1 h; obtain ⟨⟨r11, r12, r13⟩, q14, h⟩ := h
    dsimp only at h
    have f15 := c_F10 a1 r11 r12 r13 q14
    try dsimp only at f15
    refine AW.reg hS [(0, .pv (.str a1)), (1, .pv (.str b2)), (5, .pv (.slice (List.map Token.pv r11))), (7, .pv (.int .i64 r13))] [] ?_ ?_
    · simp -implicitDefEqProofs only [RUNS, qindex, Nat.reduceAdd, Nat.reduceLeDiff, Nat.reduceSub, reduceIte, Nat.reduceEqDiff, Nat.reduceLT, reduceCtorEq, Nat.reduceMul, Nat.reduceBEq, Int.reduceEq, if_true, if_false, eq_self, ne_eq, env_bT, T_9, Token.pv_eq, pf_10, f15]
    refine AW.seq ?_
    replace h := Option.bind_eq_some_iff.1 h; obtain ⟨⟨r16, r17, r18⟩, q19, h⟩ := h
    dsimp only at h
    have f20 := c_F10 b2 r16 r17 r18 q19
    try dsimp only at f20
    refine AW.reg hS [(0, .pv (.str a1)), (1, .pv (.str b2)), (5, .pv (.slice (List.map Token.pv r11))), (7, .pv (.int .i64 r13)), (8, .pv (.slice (List.map Token.pv r16))), (10, .pv (.int .i64 r18))] [] ?_ ?_
    · simp -implicitDefEqProofs only [RUNS, qindex, Nat.reduceAdd, Nat.reduceLeDiff, Nat.reduceSub, reduceIte, Nat.reduceEqDiff, Nat.reduceLT, reduceCtorEq, Nat.reduceMul, Nat.reduceBEq, Int.reduceEq, if_true, if_false, eq_self, ne_eq, env_bT, T_9, Token.pv_eq, pf_10, f20]
    refine AW.seq ?_
    refine AW.seq ?_
    refine AW.reg hS [(0, .pv (.str a1)), (1, .pv (.str b2)), (5, .pv (.slice (List.map Token.pv r11))), (8, .pv (.slice (List.map Token.pv r16))), (64, .pv (.bool ((!decide (r13 = 0) || !decide (r18 = 0)) || decide (1024 < IntKind.wrap .i64 ((IntKind.wrap .i64 ((r11.length : Int) + 1)) + (r16.length : Int))))))] [] ?_ ?_
    · clear h
      (simp -implicitDefEqProofs only [RUNS, qindex, Nat.reduceAdd, Nat.reduceLeDiff, Nat.reduceSub, reduceIte, Nat.reduceEqDiff, Nat.reduceLT, reduceCtorEq, Nat.reduceMul, Nat.reduceBEq, Int.reduceEq, if_true, if_false, eq_self, ne_eq, env_bT, T_3, T_24, T_25, T_30, Token.pv_eq, eqT_25, eqT_3]); repeat' (split <;> rename_i hb <;> (try simp only [HBS, ge_iff_le, gt_iff_lt] at hb) <;> simp -implicitDefEqProofs only [RUNS, qindex, Nat.reduceAdd, Nat.reduceLeDiff, Nat.reduceSub, reduceIte, Nat.reduceEqDiff, Nat.reduceLT, reduceCtorEq, Nat.reduceMul, Nat.reduceBEq, Int.reduceEq, if_true, if_false, eq_self, ne_eq, env_bT, T_3, T_24, T_25, T_30, Token.pv_eq, eqT_25, eqT_3, *, decide_true, decide_false, Decidable.not_not, not_false_eq_true, not_true_eq_false])
      all_goals (first | (simp only [BOOLS]; done) | (simp [*]; done) | ((try simp only [CLOS, beq_iff_eq, bne_iff_ne, ne_eq] at *) <;> omega) | (simp_all; done) | (simp_all <;> omega))
    refine AW.cond (b := ((!decide (r13 = 0) || !decide (r18 = 0)) || decide (1024 < IntKind.wrap .i64 ((IntKind.wrap .i64 ((r11.length : Int) + 1)) + (r16.length : Int))))) rfl (fun hb21 => ?_) (fun hb21 => ?_)
    · replace h := bif_t hb21 h
      refine AW.seq ?_
      replace h := Option.bind_eq_some_iff.1 h; obtain ⟨r22, q23, h⟩ := h
      have f24 := c_F8 r22 q23
      try dsimp only at f24
      refine AW.reg hS [(4, .pv (.bool r22))] [] ?_ ?_
      · simp -implicitDefEqProofs only [RUNS, qindex, Nat.reduceAdd, Nat.reduceLeDiff, Nat.reduceSub, reduceIte, Nat.reduceEqDiff, Nat.reduceLT, reduceCtorEq, Nat.reduceMul, Nat.reduceBEq, Int.reduceEq, if_true, if_false, eq_self, ne_eq, env_bT, Token.pv_eq, pf_8, f24]
      refine AW.ret ?_
      cases h
      show finish _ _ _ _ _ = _
      first | rfl | (simp [finish, resOf, renArgs, toPV, selObjs, sl])
    · replace h := bif_f hb21 h
      refine AW.skip ?_
      refine AW.seq ?_
      refine AW.seq ?_
      refine AW.reg hS [(0, .pv (.str a1)), (1, .pv (.str b2)), (5, .pv (.slice (List.map Token.pv r11))), (8, .pv (.slice (List.map Token.pv r16))), (67, .pv (.int .i64 (r11.length : Int))), (68, .pv (.int .i64 0))] [] ?_ ?_
      · simp -implicitDefEqProofs only [RUNS, qindex, Nat.reduceAdd, Nat.reduceLeDiff, Nat.reduceSub, reduceIte, Nat.reduceEqDiff, Nat.reduceLT, reduceCtorEq, Nat.reduceMul, Nat.reduceBEq, Int.reduceEq, if_true, if_false, eq_self, ne_eq, env_bT, T_24, T_30, Token.pv_eq]
      refine AW.block ?_
      refine AW.weak (Weak.slots (L := [(0, .pv (.str a1)), (1, .pv (.str b2)), (5, .pv (.slice (List.map Token.pv r11))), (8, .pv (.slice (List.map Token.pv r16))), (67, .pv (.int .i64 (r11.length : Int))), (68, .pv (.int .i64 0))]) ⟨rfl, rfl, rfl, rfl, rfl, rfl, trivial⟩) ?_
      refine AW.loopI (α := Nat × Int) (fun (_, i25) => ⟨sl [(0, .pv (.str a1)), (1, .pv (.str b2)), (5, .pv (.slice (List.map Token.pv r11))), (8, .pv (.slice (List.map Token.pv r16))), (67, .pv (.int .i64 (r11.length : Int))), (68, .pv (.int .i64 i25))], 113, []⟩) (fun x => iter (F7_b1 r11 a1 r16 b2) x.1 x.2 = some r3) (fun x => x.1) (BIG, 0) h ?_
      clear h
      intro ⟨n66, i25⟩ h
      replace h := iter_some h; obtain ⟨m28, rfl, h⟩ := h
      rw [F7_b1] at h
      try dsimp only at h
      show AW _ _ _ _ ⟨sl [(0, .pv (.str a1)), (1, .pv (.str b2)), (5, .pv (.slice (List.map Token.pv r11))), (8, .pv (.slice (List.map Token.pv r16))), (67, .pv (.int .i64 (r11.length : Int))), (68, .pv (.int .i64 i25))], 113, []⟩
      refine AW.seq ?_
      refine AW.reg hS [(0, .pv (.str a1)), (1, .pv (.str b2)), (5, .pv (.slice (List.map Token.pv r11))), (8, .pv (.slice (List.map Token.pv r16))), (67, .pv (.int .i64 (r11.length : Int))), (68, .pv (.int .i64 i25)), (69, .pv (.bool (decide (i25 < (r11.length : Int)))))] [] ?_ ?_
      · simp -implicitDefEqProofs only [RUNS, qindex, Nat.reduceAdd, Nat.reduceLeDiff, Nat.reduceSub, reduceIte, Nat.reduceEqDiff, Nat.reduceLT, reduceCtorEq, Nat.reduceMul, Nat.reduceBEq, Int.reduceEq, if_true, if_false, eq_self, ne_eq, env_bT, T_3, Token.pv_eq, eqT_3]
      refine AW.seq ?_
      refine AW.cond (b := decide (i25 < (r11.length : Int))) rfl (fun hb29 => ?_) (fun hb29 => ?_)
      · replace h := bif_t hb29 h
        refine AW.skip ?_
        refine AW.seq ?_
        refine AW.block ?_
        refine AW.seq ?_
        refine AW.reg hS [(0, .pv (.str a1)), (1, .pv (.str b2)), (5, .pv (.slice (List.map Token.pv r11))), (8, .pv (.slice (List.map Token.pv r16))), (11, .pv (.int .i64 i25)), (67, .pv (.int .i64 (r11.length : Int))), (68, .pv (.int .i64 i25))] [] ?_ ?_
        · simp -implicitDefEqProofs only [RUNS, qindex, Nat.reduceAdd, Nat.reduceLeDiff, Nat.reduceSub, reduceIte, Nat.reduceEqDiff, Nat.reduceLT, reduceCtorEq, Nat.reduceMul, Nat.reduceBEq, Int.reduceEq, if_true, if_false, eq_self, ne_eq, env_bT, Token.pv_eq]
        refine AW.seq ?_
        replace h := Option.bind_eq_some_iff.1 h; obtain ⟨u30, q31, h⟩ := h
        have f32 := lidx_f q31
        refine AW.reg hS [(0, .pv (.str a1)), (1, .pv (.str b2)), (5, .pv (.slice (List.map Token.pv r11))), (8, .pv (.slice (List.map Token.pv r16))), (67, .pv (.int .i64 (r11.length : Int))), (68, .pv (.int .i64 i25)), (76, .pv (.bool (decide (u30.kind_ = 4))))] [] ?_ ?_
        · simp -implicitDefEqProofs only [RUNS, qindex, Nat.reduceAdd, Nat.reduceLeDiff, Nat.reduceSub, reduceIte, Nat.reduceEqDiff, Nat.reduceLT, reduceCtorEq, Nat.reduceMul, Nat.reduceBEq, Int.reduceEq, if_true, if_false, eq_self, ne_eq, env_bT, T_3, T_24, T_30, Token.pv_eq, f32.1, f32.2.1, eqT_3]
        refine AW.cond (b := decide (u30.kind_ = 4)) rfl (fun hb33 => ?_) (fun hb33 => ?_)
        · replace h := bif_t hb33 h
          refine AW.seq ?_
          replace h := Option.bind_eq_some_iff.1 h; obtain ⟨r34, q35, h⟩ := h
          have f36 := c_F8 r34 q35
          try dsimp only at f36
          refine AW.reg hS [(4, .pv (.bool r34))] [] ?_ ?_
          · simp -implicitDefEqProofs only [RUNS, qindex, Nat.reduceAdd, Nat.reduceLeDiff, Nat.reduceSub, reduceIte, Nat.reduceEqDiff, Nat.reduceLT, reduceCtorEq, Nat.reduceMul, Nat.reduceBEq, Int.reduceEq, if_true, if_false, eq_self, ne_eq, env_bT, Token.pv_eq, pf_8, f36]
          refine AW.ret ?_
          cases h
          show finish _ _ _ _ _ = _
          first | rfl | (simp [finish, resOf, renArgs, toPV, selObjs, sl])
        · replace h := bif_f hb33 h
          refine AW.skip ?_
          refine AW.reg hS [(0, .pv (.str a1)), (1, .pv (.str b2)), (5, .pv (.slice (List.map Token.pv r11))), (8, .pv (.slice (List.map Token.pv r16))), (67, .pv (.int .i64 (r11.length : Int))), (68, .pv (.int .i64 (IntKind.wrap .i64 (i25 + 1))))] [] ?_ ?_
          · simp -implicitDefEqProofs only [RUNS, qindex, Nat.reduceAdd, Nat.reduceLeDiff, Nat.reduceSub, reduceIte, Nat.reduceEqDiff, Nat.reduceLT, reduceCtorEq, Nat.reduceMul, Nat.reduceBEq, Int.reduceEq, if_true, if_false, eq_self, ne_eq, env_bT, T_3, Token.pv_eq, eqT_3]
          exact ⟨(m28, IntKind.wrap .i64 (i25 + 1)), h, (Weak.norm (m := 0) (Nat.le_of_ble_eq_true rfl) ⟨rfl, rfl, rfl, rfl, rfl, rfl, trivial⟩ rfl rfl rfl), Nat.lt_succ_self _⟩
      · replace h := bif_f hb29 h
        refine AW.exit ?_
        refine AW.seq ?_
        replace h := Option.bind_eq_some_iff.1 h; obtain ⟨out37, q38, h⟩ := h
        have f39 := appO_f q38
        try simp only [List.length_cons, List.length_nil, Nat.zero_add, Nat.reduceAdd, Nat.reduceLeDiff, Nat.add_zero, Nat.reduceMul] at f39
        replace h := Option.bind_eq_some_iff.1 h; obtain ⟨out40, q41, h⟩ := h
        have f42 := appO_f q41
        try simp only [List.length_cons, List.length_nil, Nat.zero_add, Nat.reduceAdd, Nat.reduceLeDiff, Nat.add_zero, Nat.reduceMul] at f42
        try simp only [f39.2, List.length_append, List.nil_append, List.length_nil, List.length_cons, Nat.zero_add] at f42
        refine AW.reg hS [(0, .pv (.str a1)), (1, .pv (.str b2)), (8, .pv (.slice (List.map Token.pv r16))), (12, .vec 0 (List.length out40))] [.row 30 4 (List.map Token.pv out40) false] ?_ ?_
        · simp -implicitDefEqProofs only [RUNS, qindex, Nat.reduceAdd, Nat.reduceLeDiff, Nat.reduceSub, reduceIte, Nat.reduceEqDiff, Nat.reduceLT, reduceCtorEq, Nat.reduceMul, Nat.reduceBEq, Int.reduceEq, if_true, if_false, eq_self, ne_eq, env_bT, T_9, T_24, T_30, Token.pv_eq, ownT_24, f39.1, f39.2, Token.all, ownT_30, f42.1, f42.2] <;> (try simp only [List.length_take, List.length_drop, List.length_map])
        clear f39
        clear f42
        refine AW.seq ?_
        replace h := Option.bind_eq_some_iff.1 h; obtain ⟨r43, q44, h⟩ := h
        have f45 := c_F17 r16 (IntKind.wrap .i64 ((a1.length : Int) + 1)) r43 q44
        try dsimp only at f45
        replace h := Option.bind_eq_some_iff.1 h; obtain ⟨out46, q47, h⟩ := h
        have f48 := appO_f q47
        try simp only [List.length_cons, List.length_nil, Nat.zero_add, Nat.reduceAdd, Nat.reduceLeDiff, Nat.add_zero, Nat.reduceMul] at f48
        refine AW.reg hS [(0, .pv (.str a1)), (1, .pv (.str b2)), (12, .vec 0 (List.length out46))] [.row 30 4 (List.map Token.pv out46) false] ?_ ?_
        · simp -implicitDefEqProofs only [RUNS, qindex, Nat.reduceAdd, Nat.reduceLeDiff, Nat.reduceSub, reduceIte, Nat.reduceEqDiff, Nat.reduceLT, reduceCtorEq, Nat.reduceMul, Nat.reduceBEq, Int.reduceEq, if_true, if_false, eq_self, ne_eq, env_bT, T_3, T_9, T_24, T_30, Token.pv_eq, eqT_3, pf_17, f45, f48.1, f48.2, Token.all] <;> (try simp only [List.length_take, List.length_drop, List.length_map])
        clear f48
        refine AW.seq ?_
        replace h := Option.bind_eq_some_iff.1 h; obtain ⟨s49, q50, h⟩ := h
        have f51 := catO_f q50
        try simp only [List.length_cons, List.length_nil, Nat.zero_add, Nat.reduceAdd, Nat.reduceLeDiff, Nat.add_zero, Nat.reduceMul] at f51
        replace h := Option.bind_eq_some_iff.1 h; obtain ⟨s52, q53, h⟩ := h
        have f54 := catO_f q53
        try simp only [List.length_cons, List.length_nil, Nat.zero_add, Nat.reduceAdd, Nat.reduceLeDiff, Nat.add_zero, Nat.reduceMul] at f54
        replace h := Option.bind_eq_some_iff.1 h; obtain ⟨⟨r55, r56, r57⟩, q58, h⟩ := h
        dsimp only at h
        have f59 := c_F10 s52 r55 r56 r57 q58
        try dsimp only at f59
        refine AW.reg hS [(12, .vec 0 (List.length out46)), (13, .pv (.slice (List.map Token.pv r55))), (15, .pv (.int .i64 r57))] [.row 30 4 (List.map Token.pv out46) false] ?_ ?_
        · simp -implicitDefEqProofs only [RUNS, qindex, Nat.reduceAdd, Nat.reduceLeDiff, Nat.reduceSub, reduceIte, Nat.reduceEqDiff, Nat.reduceLT, reduceCtorEq, Nat.reduceMul, Nat.reduceBEq, Int.reduceEq, if_true, if_false, eq_self, ne_eq, env_bT, T_9, Token.pv_eq, eqT_9, f51.1, f51.2, f54.1, f54.2, pf_10, f59]
        refine AW.seq ?_
        refine AW.weak (Weak.freeze 0 rfl) ?_
        refine AW.weak (σ' := ⟨sl [(12, .vec 0 (List.length out46)), (13, .pv (.slice (List.map Token.pv r55))), (15, .pv (.int .i64 r57))], 113, [.row 30 4 (List.map Token.pv out46) true]⟩) (Weak.slots ⟨rfl, rfl, rfl, trivial⟩) ?_
        replace h := Option.bind_eq_some_iff.1 h; obtain ⟨r60, q61, h⟩ := h
        have f62 := fun hg => c_F16 r55 out46 r60 (guardO_t q61 hg)
        try dsimp only at f62
        replace h := Option.bind_eq_some_iff.1 h; obtain ⟨r63, q64, h⟩ := h
        have f65 := fun hg => c_F8 r63 (guardO_t q64 hg)
        try dsimp only at f65
        refine AW.reg hS [(4, .pv (.bool ((decide (r57 = 0) && r60) && r63)))] [.row 30 4 (List.map Token.pv out46) true] ?_ ?_
        · clear h
          (simp -implicitDefEqProofs only [RUNS, qindex, Nat.reduceAdd, Nat.reduceLeDiff, Nat.reduceSub, reduceIte, Nat.reduceEqDiff, Nat.reduceLT, reduceCtorEq, Nat.reduceMul, Nat.reduceBEq, Int.reduceEq, if_true, if_false, eq_self, ne_eq, env_bT, T_24, T_25, T_30, Token.pv_eq, eqT_25, pf_16, f62, pf_8, f65]); repeat' (split <;> rename_i hb <;> (try simp only [HBS, ge_iff_le, gt_iff_lt] at hb) <;> simp -implicitDefEqProofs only [RUNS, qindex, Nat.reduceAdd, Nat.reduceLeDiff, Nat.reduceSub, reduceIte, Nat.reduceEqDiff, Nat.reduceLT, reduceCtorEq, Nat.reduceMul, Nat.reduceBEq, Int.reduceEq, if_true, if_false, eq_self, ne_eq, env_bT, T_24, T_25, T_30, Token.pv_eq, eqT_25, pf_16, f62, pf_8, f65, *, decide_true, decide_false, Decidable.not_not, not_false_eq_true, not_true_eq_false])
          all_goals (first | (simp only [BOOLS]; done) | (simp [*]; done) | ((try simp only [CLOS, beq_iff_eq, bne_iff_ne, ne_eq] at *) <;> omega) | (simp_all; done) | (simp_all <;> omega))
        refine AW.ret ?_
        cases h
        show finish _ _ _ _ _ = _
        first | rfl | (simp [finish, resOf, renArgs, toPV, selObjs, sl])

end Go.Abs.U47
