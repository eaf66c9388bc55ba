/- The layer 47 laws: the functions walked. -/
import Derived.Test.YtdmihmnegakgbaaGreatDoorD1
set_option linter.unusedVariables false
set_option linter.unusedSimpArgs false
set_option maxRecDepth 8000
namespace Go.Abs.U47
open Go.RowKit Go.Proofs

set_option maxHeartbeats 4000000 in
theorem g_F27 {O : Orc} (hS : Sound env O) (hpf : O.pf = pfn) (s1 : Str) (prefix2 : Str) (r3 : Bool) (h : F27 s1 prefix2 = some r3) : Good env 27 [as_ s1, as_ prefix2] [] [ab r3] [] := by
  refine Good.start (fn := Tryz.f27) (N := 18) fn_27 rfl rfl (by simp) [] _ rfl rfl ?_
  rw [F27] at h
  refine AW.seq ?_
  refine AW.reg hS [(0, as_ s1), (1, as_ prefix2)] [] ?_ ?_
  · simp -implicitDefEqProofs only [RUNS, qindex, Nat.reduceAdd, Nat.reduceLeDiff, Nat.reduceSub, reduceIte, Nat.reduceEqDiff, Nat.reduceLT, reduceCtorEq, Nat.reduceMul, Nat.reduceBEq, Int.reduceEq, if_true, if_false, eq_self, ne_eq, env_bT, Token.pv_eq, Part.pv_eq]
  refine AW.seq ?_
  replace h := Option.bind_eq_some_iff.1 h; obtain ⟨t4, q5, h⟩ := h
  have f6 := sslice_g (guardO_t q5)
  have f6e := f6.2.2.2.2
  try simp only [Int.toNat_natCast, Int.toNat_zero, List.drop_zero] at f6e
  have f6l := f6.2.2.1
  try simp only [Int.toNat_natCast, Int.toNat_zero] at f6l
  refine AW.reg hS [(4, ab (decide ((prefix2.length : Int) ≤ (s1.length : Int)) && decide (t4 = prefix2)))] [] ?_ ?_
  · clear h
    (simp -implicitDefEqProofs only [RUNS, qindex, Nat.reduceAdd, Nat.reduceLeDiff, Nat.reduceSub, reduceIte, Nat.reduceEqDiff, Nat.reduceLT, reduceCtorEq, Nat.reduceMul, Nat.reduceBEq, Int.reduceEq, if_true, if_false, eq_self, ne_eq, env_bT, T_3, T_9, Token.pv_eq, Part.pv_eq, eqT_3, f6.1, f6.2.1, f6l, f6.2.2.2.1, f6e, Int.toNat_natCast, Int.toNat_zero, eqT_9]); repeat' (split <;> rename_i hb <;> (try simp only [HBS, ge_iff_le, gt_iff_lt] at hb) <;> simp -implicitDefEqProofs only [RUNS, qindex, Nat.reduceAdd, Nat.reduceLeDiff, Nat.reduceSub, reduceIte, Nat.reduceEqDiff, Nat.reduceLT, reduceCtorEq, Nat.reduceMul, Nat.reduceBEq, Int.reduceEq, if_true, if_false, eq_self, ne_eq, env_bT, T_3, T_9, Token.pv_eq, Part.pv_eq, eqT_3, f6.1, f6.2.1, f6l, f6.2.2.2.1, f6e, Int.toNat_natCast, Int.toNat_zero, eqT_9, *, decide_true, decide_false, Decidable.not_not, not_false_eq_true, not_true_eq_false])
    all_goals (first | (simp only [BOOLS]; done) | (simp [*]; done) | ((try simp only [CLOS, beq_iff_eq, bne_iff_ne, ne_eq] at *) <;> omega) | (simp_all; done) | (simp_all <;> omega))
  refine AW.ret ?_
  cases h
  show finish _ _ _ _ _ = _
  first | rfl | (simp [finish, resOf, renArgs, toPV, selObjs, sl])

set_option maxHeartbeats 4000000 in
theorem g_F15 {O : Orc} (hS : Sound env O) (hpf : O.pf = pfn) (c_F27 : C_F27 O) (s1 : Str) (prefix2 : Str) (r3 : Bool) (h : F15 s1 prefix2 = some r3) : Good env 15 [as_ s1, as_ prefix2] [] [ab r3] [] := by
  have pf_27 : O.pf 27 = true := by rw [hpf]; rfl
  refine Good.start (fn := Tryz.f15) (N := 8) fn_15 rfl rfl (by simp) [] _ rfl rfl ?_
  rw [F15] at h
  refine AW.seq ?_
  refine AW.reg hS [(0, as_ s1), (1, as_ prefix2)] [] ?_ ?_
  · simp -implicitDefEqProofs only [RUNS, qindex, Nat.reduceAdd, Nat.reduceLeDiff, Nat.reduceSub, reduceIte, Nat.reduceEqDiff, Nat.reduceLT, reduceCtorEq, Nat.reduceMul, Nat.reduceBEq, Int.reduceEq, if_true, if_false, eq_self, ne_eq, env_bT, Token.pv_eq, Part.pv_eq]
  refine AW.seq ?_
  replace h := Option.bind_eq_some_iff.1 h; obtain ⟨r4, q5, h⟩ := h
  have f6 := c_F27 s1 prefix2 r4 q5
  try dsimp only at f6
  refine AW.reg hS [(4, ab r4)] [] ?_ ?_
  · simp -implicitDefEqProofs only [RUNS, qindex, Nat.reduceAdd, Nat.reduceLeDiff, Nat.reduceSub, reduceIte, Nat.reduceEqDiff, Nat.reduceLT, reduceCtorEq, Nat.reduceMul, Nat.reduceBEq, Int.reduceEq, if_true, if_false, eq_self, ne_eq, env_bT, T_9, Token.pv_eq, Part.pv_eq, pf_27, f6]
  refine AW.ret ?_
  cases h
  show finish _ _ _ _ _ = _
  first | rfl | (simp [finish, resOf, renArgs, toPV, selObjs, sl])

set_option maxHeartbeats 4000000 in
theorem g_F20 {O : Orc} (hS : Sound env O) (hpf : O.pf = pfn) (c_L_Cut : C_L_Cut O) (s1 : Str) (at2 : Int) (r3 : List Str) (r4 : List Int) (h : F20 s1 at2 = some (r3, r4)) : Good env 20 [as_ s1, ai at2] [] [.pv (.slice (List.map PV.str r3)), .pv (.slice (List.map (PV.int .i64) r4))] [] := by
  have pf_41 : O.pf 41 = true := by rw [hpf]; rfl
  refine Good.start (fn := Tryz.f20) (N := 40) fn_20 rfl rfl (by simp) [] _ rfl rfl ?_
  rw [F20] at h
  refine AW.seq ?_
  refine AW.reg hS [(0, as_ s1), (1, ai at2)] [] ?_ ?_
  · simp -implicitDefEqProofs only [RUNS, qindex, Nat.reduceAdd, Nat.reduceLeDiff, Nat.reduceSub, reduceIte, Nat.reduceEqDiff, Nat.reduceLT, reduceCtorEq, Nat.reduceMul, Nat.reduceBEq, Int.reduceEq, if_true, if_false, eq_self, ne_eq, env_bT, Token.pv_eq, Part.pv_eq]
  refine AW.seq ?_
  refine AW.reg hS [(0, as_ s1), (1, ai at2), (6, .nils)] [] ?_ ?_
  · simp -implicitDefEqProofs only [RUNS, qindex, Nat.reduceAdd, Nat.reduceLeDiff, Nat.reduceSub, reduceIte, Nat.reduceEqDiff, Nat.reduceLT, reduceCtorEq, Nat.reduceMul, Nat.reduceBEq, Int.reduceEq, if_true, if_false, eq_self, ne_eq, env_bT, Token.pv_eq, Part.pv_eq]
  refine AW.weak (Weak.own 6 9 1 (by decide) rfl) ?_
  refine AW.weak (Weak.slots (L := [(0, as_ s1), (1, ai at2), (6, .vec 0 (List.length ([] : List Str)))]) ⟨rfl, rfl, rfl, trivial⟩) ?_
  refine AW.seq ?_
  refine AW.reg hS [(0, as_ s1), (1, ai at2), (6, .vec 0 (List.length ([] : List Str))), (7, .nils)] [.row 9 1 (List.map PV.str ([] : List Str)) true] ?_ ?_
  · simp -implicitDefEqProofs only [RUNS, qindex, Nat.reduceAdd, Nat.reduceLeDiff, Nat.reduceSub, reduceIte, Nat.reduceEqDiff, Nat.reduceLT, reduceCtorEq, Nat.reduceMul, Nat.reduceBEq, Int.reduceEq, if_true, if_false, eq_self, ne_eq, env_bT, Token.pv_eq, Part.pv_eq]
  refine AW.weak (Weak.own 7 3 1 (by decide) rfl) ?_
  refine AW.weak (Weak.slots (L := [(0, as_ s1), (1, ai at2), (6, .vec 0 (List.length ([] : List Str))), (7, .vec 1 (List.length ([] : List Int)))]) ⟨rfl, rfl, rfl, rfl, trivial⟩) ?_
  refine AW.seq ?_
  refine AW.block ?_
  refine AW.weak (Weak.slots (L := [(0, as_ s1), (1, ai at2), (6, .vec 0 (List.length ([] : List Str))), (7, .vec 1 (List.length ([] : List Int)))]) ⟨rfl, rfl, rfl, rfl, trivial⟩) ?_
  refine AW.loopI (α := Nat × Int × (List Str) × (List Int)) (fun (_, at5, l6, l7) => ⟨sl [(0, as_ s1), (1, ai at5), (6, .vec 0 l6.length), (7, .vec 1 l7.length)], 40, [.row 9 1 (List.map PV.str l6) true, .row 3 1 (List.map (PV.int .i64) l7) true]⟩) (fun x => iter (F20_b1 s1) x.1 x.2 = some (r3, r4)) (fun x => x.1) (BIG, (at2, ([] : List Str), ([] : List Int))) h ?_
  clear h
  intro ⟨n27, at5, l6, l7⟩ h
  replace h := iter_some h; obtain ⟨m10, rfl, h⟩ := h
  rw [F20_b1] at h
  try dsimp only at h
  show AW _ _ _ _ ⟨sl [(0, as_ s1), (1, ai at5), (6, .vec 0 l6.length), (7, .vec 1 l7.length)], 40, [.row 9 1 (List.map PV.str l6) true, .row 3 1 (List.map (PV.int .i64) l7) true]⟩
  refine AW.seq ?_
  refine AW.seq ?_
  refine AW.reg hS [(0, as_ s1), (1, ai at5), (6, .vec 0 l6.length), (7, .vec 1 l7.length), (14, ab (decide (at5 < (s1.length : Int))))] [.row 9 1 (List.map PV.str l6) true, .row 3 1 (List.map (PV.int .i64) l7) true] ?_ ?_
  · simp -implicitDefEqProofs only [RUNS, qindex, Nat.reduceAdd, Nat.reduceLeDiff, Nat.reduceSub, reduceIte, Nat.reduceEqDiff, Nat.reduceLT, reduceCtorEq, Nat.reduceMul, Nat.reduceBEq, Int.reduceEq, if_true, if_false, eq_self, ne_eq, env_bT, T_3, T_9, Token.pv_eq, Part.pv_eq, eqT_3]
  refine AW.cond (b := decide (at5 < (s1.length : Int))) rfl (fun hb11 => ?_) (fun hb11 => ?_)
  · replace h := bif_t hb11 h
    refine AW.skip ?_
    refine AW.block ?_
    refine AW.seq ?_
    replace h := Option.bind_eq_some_iff.1 h; obtain ⟨t12, q13, h⟩ := h
    have f14 := sslice_f q13
    have f14e := f14.2.2.2.2
    try simp only [Int.toNat_natCast, Int.toNat_zero, List.drop_zero] at f14e
    have f14l := f14.2.2.1
    try simp only [Int.toNat_natCast, Int.toNat_zero] at f14l
    replace h := Option.bind_eq_some_iff.1 h; obtain ⟨⟨a15, b16, ok17⟩, q18, h⟩ := h
    dsimp only at h
    have f19 := c_L_Cut t12 [10] a15 b16 ok17 q18
    try dsimp only at f19
    try simp only [List.map_cons, List.map_nil, Token.pv_eq, Part.pv_eq] at f19
    refine AW.reg hS [(0, as_ s1), (1, ai at5), (6, .vec 0 l6.length), (7, .vec 1 l7.length), (8, as_ a15), (10, ab ok17)] [.row 9 1 (List.map PV.str l6) true, .row 3 1 (List.map (PV.int .i64) l7) true] ?_ ?_
    · simp -implicitDefEqProofs only [RUNS, qindex, Nat.reduceAdd, Nat.reduceLeDiff, Nat.reduceSub, reduceIte, Nat.reduceEqDiff, Nat.reduceLT, reduceCtorEq, Nat.reduceMul, Nat.reduceBEq, Int.reduceEq, if_true, if_false, eq_self, ne_eq, env_bT, T_9, Token.pv_eq, Part.pv_eq, f14.1, f14.2.1, f14l, f14.2.2.2.1, f14e, Int.toNat_natCast, Int.toNat_zero, pf_41, f19]
    refine AW.seq ?_
    refine AW.reg hS [(0, as_ s1), (1, ai (IntKind.wrap .i64 (at5 + (a15.length : Int)))), (6, .vec 0 l6.length), (7, .vec 1 l7.length), (8, as_ a15), (10, ab ok17)] [.row 9 1 (List.map PV.str l6) true, .row 3 1 (List.map (PV.int .i64) l7) true] ?_ ?_
    · simp -implicitDefEqProofs only [RUNS, qindex, Nat.reduceAdd, Nat.reduceLeDiff, Nat.reduceSub, reduceIte, Nat.reduceEqDiff, Nat.reduceLT, reduceCtorEq, Nat.reduceMul, Nat.reduceBEq, Int.reduceEq, if_true, if_false, eq_self, ne_eq, env_bT, T_3, T_9, Token.pv_eq, Part.pv_eq, eqT_3]
    refine AW.seqM ⟨sl [(0, as_ s1), (1, ai (bif ok17 then IntKind.wrap .i64 ((IntKind.wrap .i64 (at5 + (a15.length : Int))) + 1) else IntKind.wrap .i64 (at5 + (a15.length : Int)))), (6, .vec 0 l6.length), (7, .vec 1 l7.length), (8, as_ a15)], 40, [.row 9 1 (List.map PV.str l6) true, .row 3 1 (List.map (PV.int .i64) l7) true]⟩ ?_ ?_
    · refine AW.seq ?_
      refine AW.reg hS [(0, as_ s1), (1, ai (IntKind.wrap .i64 (at5 + (a15.length : Int)))), (6, .vec 0 l6.length), (7, .vec 1 l7.length), (8, as_ a15), (27, ab ok17)] [.row 9 1 (List.map PV.str l6) true, .row 3 1 (List.map (PV.int .i64) l7) true] ?_ ?_
      · simp -implicitDefEqProofs only [RUNS, qindex, Nat.reduceAdd, Nat.reduceLeDiff, Nat.reduceSub, reduceIte, Nat.reduceEqDiff, Nat.reduceLT, reduceCtorEq, Nat.reduceMul, Nat.reduceBEq, Int.reduceEq, if_true, if_false, eq_self, ne_eq, env_bT, Token.pv_eq, Part.pv_eq]
      refine AW.cond (b := ok17) rfl (fun hb20 => ?_) (fun hb20 => ?_)
      · refine AW.reg hS [(0, as_ s1), (1, ai (IntKind.wrap .i64 ((IntKind.wrap .i64 (at5 + (a15.length : Int))) + 1))), (6, .vec 0 l6.length), (7, .vec 1 l7.length), (8, as_ a15)] [.row 9 1 (List.map PV.str l6) true, .row 3 1 (List.map (PV.int .i64) l7) true] ?_ ?_
        · simp -implicitDefEqProofs only [RUNS, qindex, Nat.reduceAdd, Nat.reduceLeDiff, Nat.reduceSub, reduceIte, Nat.reduceEqDiff, Nat.reduceLT, reduceCtorEq, Nat.reduceMul, Nat.reduceBEq, Int.reduceEq, if_true, if_false, eq_self, ne_eq, env_bT, T_3, Token.pv_eq, Part.pv_eq, eqT_3]
        exact Weak.of_eq (Weak.slots (L := [(0, as_ s1), (1, ai (IntKind.wrap .i64 ((IntKind.wrap .i64 (at5 + (a15.length : Int))) + 1))), (6, .vec 0 l6.length), (7, .vec 1 l7.length), (8, as_ a15)]) ⟨rfl, rfl, rfl, rfl, rfl, trivial⟩) (by simp only [hb20, cond_true, cond_false, Bool.true_or, Bool.false_or, Bool.true_and, Bool.false_and, Bool.or_true, Bool.or_false, Bool.and_true, Bool.and_false, Bool.not_true, Bool.not_false])
      · refine AW.skip ?_
        exact Weak.of_eq (Weak.slots (L := [(0, as_ s1), (1, ai (IntKind.wrap .i64 (at5 + (a15.length : Int)))), (6, .vec 0 l6.length), (7, .vec 1 l7.length), (8, as_ a15)]) ⟨rfl, rfl, rfl, rfl, rfl, trivial⟩) (by simp only [hb20, cond_true, cond_false, Bool.true_or, Bool.false_or, Bool.true_and, Bool.false_and, Bool.or_true, Bool.or_false, Bool.and_true, Bool.and_false, Bool.not_true, Bool.not_false])
    replace h := Option.bind_eq_some_iff.1 h; obtain ⟨out21, q22, h⟩ := h
    have f23 := appO_f q22
    try simp only [List.length_cons, List.length_nil, Nat.zero_add, Nat.reduceAdd, Nat.reduceLeDiff, Nat.add_zero, Nat.reduceMul] at f23
    replace h := Option.bind_eq_some_iff.1 h; obtain ⟨out24, q25, h⟩ := h
    have f26 := appO_f q25
    try simp only [List.length_cons, List.length_nil, Nat.zero_add, Nat.reduceAdd, Nat.reduceLeDiff, Nat.add_zero, Nat.reduceMul] at f26
    try simp only [f23.2, List.length_append, List.nil_append, List.length_nil, List.length_cons, Nat.zero_add] at f26
    refine AW.reg hS [(0, as_ s1), (1, ai (bif ok17 then IntKind.wrap .i64 ((IntKind.wrap .i64 (at5 + (a15.length : Int))) + 1) else IntKind.wrap .i64 (at5 + (a15.length : Int)))), (6, .vec 0 out21.length), (7, .vec 1 out24.length)] [.row 9 1 (List.map PV.str out21) true, .row 3 1 (List.map (PV.int .i64) out24) true] ?_ ?_
    · simp -implicitDefEqProofs only [RUNS, qindex, Nat.reduceAdd, Nat.reduceLeDiff, Nat.reduceSub, reduceIte, Nat.reduceEqDiff, Nat.reduceLT, reduceCtorEq, Nat.reduceMul, Nat.reduceBEq, Int.reduceEq, if_true, if_false, eq_self, ne_eq, env_bT, T_3, T_9, T_35, T_45, Token.pv_eq, Part.pv_eq, ownT_35, f23.1, f23.2, str_all, ownT_45, f26.1, f26.2, int_all] <;> (try simp only [List.length_take, List.length_drop, List.length_map])
    clear f23
    clear f26
    exact ⟨(m10, ((bif ok17 then IntKind.wrap .i64 ((IntKind.wrap .i64 (at5 + (a15.length : Int))) + 1) else IntKind.wrap .i64 (at5 + (a15.length : Int))), out21, out24)), h, (Weak.norm (m := 2) (Nat.le_of_ble_eq_true rfl) ⟨rfl, rfl, rfl, rfl, trivial⟩ rfl rfl rfl), Nat.lt_succ_self _⟩
  · replace h := bif_f hb11 h
    refine AW.exit ?_
    refine AW.seq ?_
    refine AW.reg hS [(4, .vec 0 l6.length), (5, .vec 1 l7.length)] [.row 9 1 (List.map PV.str l6) true, .row 3 1 (List.map (PV.int .i64) l7) true] ?_ ?_
    · simp -implicitDefEqProofs only [RUNS, qindex, Nat.reduceAdd, Nat.reduceLeDiff, Nat.reduceSub, reduceIte, Nat.reduceEqDiff, Nat.reduceLT, reduceCtorEq, Nat.reduceMul, Nat.reduceBEq, Int.reduceEq, if_true, if_false, eq_self, ne_eq, env_bT, Token.pv_eq, Part.pv_eq]
    refine AW.ret ?_
    cases h
    show finish _ _ _ _ _ = _
    first | rfl | (simp [finish, resOf, renArgs, toPV, selObjs, sl])

set_option maxHeartbeats 4000000 in
theorem g_F21 {O : Orc} (hS : Sound env O) (hpf : O.pf = pfn) (s1 : List Str) (v2 : Str) (r3 : Int) (h : F21 s1 v2 = some r3) : Good env 21 [.pv (.slice (List.map PV.str s1)), as_ v2] [] [ai r3] [] := by
  refine Good.start (fn := Tryz.f21) (N := 19) fn_21 rfl rfl (by simp) [] _ rfl rfl ?_
  rw [F21] at h
  refine AW.seq ?_
  refine AW.reg hS [(0, .pv (.slice (List.map PV.str s1))), (1, as_ v2)] [] ?_ ?_
  · simp -implicitDefEqProofs only [RUNS, qindex, Nat.reduceAdd, Nat.reduceLeDiff, Nat.reduceSub, reduceIte, Nat.reduceEqDiff, Nat.reduceLT, reduceCtorEq, Nat.reduceMul, Nat.reduceBEq, Int.reduceEq, if_true, if_false, eq_self, ne_eq, env_bT, Token.pv_eq, Part.pv_eq]
  refine AW.seq ?_
  refine AW.seq ?_
  refine AW.reg hS [(0, .pv (.slice (List.map PV.str s1))), (1, as_ v2), (7, ai (s1.length : Int)), (8, ai 0)] [] ?_ ?_
  · simp -implicitDefEqProofs only [RUNS, qindex, Nat.reduceAdd, Nat.reduceLeDiff, Nat.reduceSub, reduceIte, Nat.reduceEqDiff, Nat.reduceLT, reduceCtorEq, Nat.reduceMul, Nat.reduceBEq, Int.reduceEq, if_true, if_false, eq_self, ne_eq, env_bT, T_9, T_35, Token.pv_eq, Part.pv_eq]
  refine AW.block ?_
  refine AW.weak (Weak.slots (L := [(0, .pv (.slice (List.map PV.str s1))), (1, as_ v2), (7, ai (s1.length : Int)), (8, ai 0)]) ⟨rfl, rfl, rfl, rfl, trivial⟩) ?_
  refine AW.loopI (α := Nat × Int) (fun (_, i4) => ⟨sl [(0, .pv (.slice (List.map PV.str s1))), (1, as_ v2), (7, ai (s1.length : Int)), (8, ai i4)], 19, []⟩) (fun x => iter (F21_b1 s1 v2) x.1 x.2 = some r3) (fun x => x.1) (BIG, 0) h ?_
  clear h
  intro ⟨n13, i4⟩ h
  replace h := iter_some h; obtain ⟨m7, rfl, h⟩ := h
  rw [F21_b1] at h
  try dsimp only at h
  show AW _ _ _ _ ⟨sl [(0, .pv (.slice (List.map PV.str s1))), (1, as_ v2), (7, ai (s1.length : Int)), (8, ai i4)], 19, []⟩
  refine AW.seq ?_
  refine AW.reg hS [(0, .pv (.slice (List.map PV.str s1))), (1, as_ v2), (7, ai (s1.length : Int)), (8, ai i4), (9, ab (decide (i4 < (s1.length : Int))))] [] ?_ ?_
  · simp -implicitDefEqProofs only [RUNS, qindex, Nat.reduceAdd, Nat.reduceLeDiff, Nat.reduceSub, reduceIte, Nat.reduceEqDiff, Nat.reduceLT, reduceCtorEq, Nat.reduceMul, Nat.reduceBEq, Int.reduceEq, if_true, if_false, eq_self, ne_eq, env_bT, T_3, Token.pv_eq, Part.pv_eq, eqT_3]
  refine AW.seq ?_
  refine AW.cond (b := decide (i4 < (s1.length : Int))) rfl (fun hb8 => ?_) (fun hb8 => ?_)
  · replace h := bif_t hb8 h
    refine AW.skip ?_
    refine AW.seq ?_
    refine AW.block ?_
    refine AW.seq ?_
    refine AW.reg hS [(0, .pv (.slice (List.map PV.str s1))), (1, as_ v2), (5, ai i4), (7, ai (s1.length : Int)), (8, ai i4)] [] ?_ ?_
    · simp -implicitDefEqProofs only [RUNS, qindex, Nat.reduceAdd, Nat.reduceLeDiff, Nat.reduceSub, reduceIte, Nat.reduceEqDiff, Nat.reduceLT, reduceCtorEq, Nat.reduceMul, Nat.reduceBEq, Int.reduceEq, if_true, if_false, eq_self, ne_eq, env_bT, Token.pv_eq, Part.pv_eq]
    refine AW.seq ?_
    replace h := Option.bind_eq_some_iff.1 h; obtain ⟨w9, q10, h⟩ := h
    have f11 := lidx_f q10
    refine AW.reg hS [(0, .pv (.slice (List.map PV.str s1))), (1, as_ v2), (5, ai i4), (7, ai (s1.length : Int)), (8, ai i4), (16, ab (decide (v2 = w9)))] [] ?_ ?_
    · simp -implicitDefEqProofs only [RUNS, qindex, Nat.reduceAdd, Nat.reduceLeDiff, Nat.reduceSub, reduceIte, Nat.reduceEqDiff, Nat.reduceLT, reduceCtorEq, Nat.reduceMul, Nat.reduceBEq, Int.reduceEq, if_true, if_false, eq_self, ne_eq, env_bT, T_9, T_35, Token.pv_eq, Part.pv_eq, f11.1, f11.2.1, eqT_9]
    refine AW.cond (b := decide (v2 = w9)) rfl (fun hb12 => ?_) (fun hb12 => ?_)
    · replace h := bif_t hb12 h
      refine AW.seq ?_
      refine AW.reg hS [(4, ai i4)] [] ?_ ?_
      · simp -implicitDefEqProofs only [RUNS, qindex, Nat.reduceAdd, Nat.reduceLeDiff, Nat.reduceSub, reduceIte, Nat.reduceEqDiff, Nat.reduceLT, reduceCtorEq, Nat.reduceMul, Nat.reduceBEq, Int.reduceEq, if_true, if_false, eq_self, ne_eq, env_bT, Token.pv_eq, Part.pv_eq]
      refine AW.ret ?_
      cases h
      show finish _ _ _ _ _ = _
      first | rfl | (simp [finish, resOf, renArgs, toPV, selObjs, sl])
    · replace h := bif_f hb12 h
      refine AW.skip ?_
      refine AW.reg hS [(0, .pv (.slice (List.map PV.str s1))), (1, as_ v2), (7, ai (s1.length : Int)), (8, ai (IntKind.wrap .i64 (i4 + 1)))] [] ?_ ?_
      · simp -implicitDefEqProofs only [RUNS, qindex, Nat.reduceAdd, Nat.reduceLeDiff, Nat.reduceSub, reduceIte, Nat.reduceEqDiff, Nat.reduceLT, reduceCtorEq, Nat.reduceMul, Nat.reduceBEq, Int.reduceEq, if_true, if_false, eq_self, ne_eq, env_bT, T_3, Token.pv_eq, Part.pv_eq, eqT_3]
      exact ⟨(m7, IntKind.wrap .i64 (i4 + 1)), h, (Weak.norm (m := 0) (Nat.le_of_ble_eq_true rfl) ⟨rfl, rfl, rfl, rfl, trivial⟩ rfl rfl rfl), Nat.lt_succ_self _⟩
  · replace h := bif_f hb8 h
    refine AW.exit ?_
    refine AW.seq ?_
    refine AW.reg hS [(4, ai (-1))] [] ?_ ?_
    · simp -implicitDefEqProofs only [RUNS, qindex, Nat.reduceAdd, Nat.reduceLeDiff, Nat.reduceSub, reduceIte, Nat.reduceEqDiff, Nat.reduceLT, reduceCtorEq, Nat.reduceMul, Nat.reduceBEq, Int.reduceEq, if_true, if_false, eq_self, ne_eq, env_bT, Token.pv_eq, Part.pv_eq]
    refine AW.ret ?_
    cases h
    show finish _ _ _ _ _ = _
    first | rfl | (simp [finish, resOf, renArgs, toPV, selObjs, sl])

set_option maxHeartbeats 4000000 in
theorem g_F8 {O : Orc} (hS : Sound env O) (hpf : O.pf = pfn) (c_F20 : C_F20 O) (c_F21 : C_F21 O) (c_L_Join : C_L_Join O) (s1 : Str) (at2 : Int) (end3 : Str) (r4 : Str) (r5 : Int) (r6 : Int) (h : F8 s1 at2 end3 = some (r4, r5, r6)) : Good env 8 [as_ s1, ai at2, as_ end3] [] [as_ r4, ai r5, ai r6] [] := by
  have pf_20 : O.pf 20 = true := by rw [hpf]; rfl
  have pf_21 : O.pf 21 = true := by rw [hpf]; rfl
  have pf_22 : O.pf 22 = true := by rw [hpf]; rfl
  refine Good.start (fn := Tryz.f8) (N := 44) fn_8 rfl rfl (by simp) [] _ rfl rfl ?_
  rw [F8] at h
  refine AW.seq ?_
  refine AW.reg hS [(0, as_ s1), (1, ai at2), (2, as_ end3)] [] ?_ ?_
  · simp -implicitDefEqProofs only [RUNS, qindex, Nat.reduceAdd, Nat.reduceLeDiff, Nat.reduceSub, reduceIte, Nat.reduceEqDiff, Nat.reduceLT, reduceCtorEq, Nat.reduceMul, Nat.reduceBEq, Int.reduceEq, if_true, if_false, eq_self, ne_eq, env_bT, Token.pv_eq, Part.pv_eq]
  refine AW.seq ?_
  refine AW.seq ?_
  refine AW.reg hS [(0, as_ s1), (1, ai at2), (2, as_ end3), (20, ab (decide (at2 < 0) || decide ((s1.length : Int) < at2)))] [] ?_ ?_
  · clear h
    (simp -implicitDefEqProofs only [RUNS, qindex, Nat.reduceAdd, Nat.reduceLeDiff, Nat.reduceSub, reduceIte, Nat.reduceEqDiff, Nat.reduceLT, reduceCtorEq, Nat.reduceMul, Nat.reduceBEq, Int.reduceEq, if_true, if_false, eq_self, ne_eq, env_bT, T_3, T_9, Token.pv_eq, Part.pv_eq, eqT_3]); repeat' (split <;> rename_i hb <;> (try simp only [HBS, ge_iff_le, gt_iff_lt] at hb) <;> simp -implicitDefEqProofs only [RUNS, qindex, Nat.reduceAdd, Nat.reduceLeDiff, Nat.reduceSub, reduceIte, Nat.reduceEqDiff, Nat.reduceLT, reduceCtorEq, Nat.reduceMul, Nat.reduceBEq, Int.reduceEq, if_true, if_false, eq_self, ne_eq, env_bT, T_3, T_9, Token.pv_eq, Part.pv_eq, eqT_3, *, decide_true, decide_false, Decidable.not_not, not_false_eq_true, not_true_eq_false])
    all_goals (first | (simp only [BOOLS]; done) | (simp [*]; done) | ((try simp only [CLOS, beq_iff_eq, bne_iff_ne, ne_eq] at *) <;> omega) | (simp_all; done) | (simp_all <;> omega))
  refine AW.cond (b := (decide (at2 < 0) || decide ((s1.length : Int) < at2))) rfl (fun hb7 => ?_) (fun hb7 => ?_)
  · replace h := bif_t hb7 h
    refine AW.seq ?_
    refine AW.reg hS [(6, as_ []), (7, ai 0), (8, ai 1)] [] ?_ ?_
    · simp -implicitDefEqProofs only [RUNS, qindex, Nat.reduceAdd, Nat.reduceLeDiff, Nat.reduceSub, reduceIte, Nat.reduceEqDiff, Nat.reduceLT, reduceCtorEq, Nat.reduceMul, Nat.reduceBEq, Int.reduceEq, if_true, if_false, eq_self, ne_eq, env_bT, Token.pv_eq, Part.pv_eq]
    refine AW.ret ?_
    cases h
    show finish _ _ _ _ _ = _
    first | rfl | (simp [finish, resOf, renArgs, toPV, selObjs, sl])
  · replace h := bif_f hb7 h
    refine AW.skip ?_
    refine AW.seq ?_
    replace h := Option.bind_eq_some_iff.1 h; obtain ⟨⟨r8, r9⟩, q10, h⟩ := h
    dsimp only at h
    have f11 := c_F20 s1 at2 r8 r9 q10
    try dsimp only at f11
    refine AW.reg hS [(2, as_ end3), (9, .pv (.slice (List.map PV.str r8))), (10, .pv (.slice (List.map (PV.int .i64) r9)))] [] ?_ ?_
    · simp -implicitDefEqProofs only [RUNS, qindex, Nat.reduceAdd, Nat.reduceLeDiff, Nat.reduceSub, reduceIte, Nat.reduceEqDiff, Nat.reduceLT, reduceCtorEq, Nat.reduceMul, Nat.reduceBEq, Int.reduceEq, if_true, if_false, eq_self, ne_eq, env_bT, T_3, T_9, Token.pv_eq, Part.pv_eq, pf_20, f11]
    refine AW.seq ?_
    replace h := Option.bind_eq_some_iff.1 h; obtain ⟨r12, q13, h⟩ := h
    have f14 := c_F21 r8 end3 r12 q13
    try dsimp only at f14
    refine AW.reg hS [(9, .pv (.slice (List.map PV.str r8))), (10, .pv (.slice (List.map (PV.int .i64) r9))), (11, ai r12)] [] ?_ ?_
    · simp -implicitDefEqProofs only [RUNS, qindex, Nat.reduceAdd, Nat.reduceLeDiff, Nat.reduceSub, reduceIte, Nat.reduceEqDiff, Nat.reduceLT, reduceCtorEq, Nat.reduceMul, Nat.reduceBEq, Int.reduceEq, if_true, if_false, eq_self, ne_eq, env_bT, T_9, T_35, Token.pv_eq, Part.pv_eq, pf_21, f14]
    refine AW.seq ?_
    refine AW.seq ?_
    refine AW.reg hS [(9, .pv (.slice (List.map PV.str r8))), (10, .pv (.slice (List.map (PV.int .i64) r9))), (11, ai r12), (31, ab (decide (r12 < 0)))] [] ?_ ?_
    · simp -implicitDefEqProofs only [RUNS, qindex, Nat.reduceAdd, Nat.reduceLeDiff, Nat.reduceSub, reduceIte, Nat.reduceEqDiff, Nat.reduceLT, reduceCtorEq, Nat.reduceMul, Nat.reduceBEq, Int.reduceEq, if_true, if_false, eq_self, ne_eq, env_bT, T_3, Token.pv_eq, Part.pv_eq, eqT_3]
    refine AW.cond (b := decide (r12 < 0)) rfl (fun hb15 => ?_) (fun hb15 => ?_)
    · replace h := bif_t hb15 h
      refine AW.seq ?_
      refine AW.reg hS [(6, as_ []), (7, ai 0), (8, ai 3)] [] ?_ ?_
      · simp -implicitDefEqProofs only [RUNS, qindex, Nat.reduceAdd, Nat.reduceLeDiff, Nat.reduceSub, reduceIte, Nat.reduceEqDiff, Nat.reduceLT, reduceCtorEq, Nat.reduceMul, Nat.reduceBEq, Int.reduceEq, if_true, if_false, eq_self, ne_eq, env_bT, Token.pv_eq, Part.pv_eq]
      refine AW.ret ?_
      cases h
      show finish _ _ _ _ _ = _
      first | rfl | (simp [finish, resOf, renArgs, toPV, selObjs, sl])
    · replace h := bif_f hb15 h
      refine AW.skip ?_
      refine AW.seq ?_
      refine AW.reg hS [(9, .pv (.slice (List.map PV.str r8))), (10, .pv (.slice (List.map (PV.int .i64) r9))), (11, ai r12), (12, as_ [])] [] ?_ ?_
      · simp -implicitDefEqProofs only [RUNS, qindex, Nat.reduceAdd, Nat.reduceLeDiff, Nat.reduceSub, reduceIte, Nat.reduceEqDiff, Nat.reduceLT, reduceCtorEq, Nat.reduceMul, Nat.reduceBEq, Int.reduceEq, if_true, if_false, eq_self, ne_eq, env_bT, Token.pv_eq, Part.pv_eq]
      refine AW.seq ?_
      refine AW.seq ?_
      refine AW.reg hS [(9, .pv (.slice (List.map PV.str r8))), (10, .pv (.slice (List.map (PV.int .i64) r9))), (11, ai r12), (12, as_ []), (33, ab (decide (0 < r12)))] [] ?_ ?_
      · simp -implicitDefEqProofs only [RUNS, qindex, Nat.reduceAdd, Nat.reduceLeDiff, Nat.reduceSub, reduceIte, Nat.reduceEqDiff, Nat.reduceLT, reduceCtorEq, Nat.reduceMul, Nat.reduceBEq, Int.reduceEq, if_true, if_false, eq_self, ne_eq, env_bT, T_3, Token.pv_eq, Part.pv_eq, eqT_3]
      refine AW.cond (b := decide (0 < r12)) rfl (fun hb16 => ?_) (fun hb16 => ?_)
      · replace h := bif_t hb16 h
        replace h := Option.bind_eq_some_iff.1 h; obtain ⟨l17, q18, h⟩ := h
        have f19 := lslice_f q18
        have f19l := f19.2.2.1
        try simp only [Int.toNat_natCast, Int.toNat_zero] at f19l
        replace h := Option.bind_eq_some_iff.1 h; obtain ⟨s20, q21, h⟩ := h
        have f22 := c_L_Join l17 [10] s20 q21
        try dsimp only at f22
        try simp only [f19.2.2.2.2, List.map_take, List.map_drop, Int.toNat_natCast, Int.toNat_zero, List.drop_zero, Nat.sub_zero] at f22
        try simp only [List.map_cons, List.map_nil, Token.pv_eq, Part.pv_eq] at f22
        replace h := Option.bind_eq_some_iff.1 h; obtain ⟨s23, q24, h⟩ := h
        have f25 := catO_f q24
        try simp only [List.length_cons, List.length_nil, Nat.zero_add, Nat.reduceAdd, Nat.reduceLeDiff, Nat.add_zero, Nat.reduceMul] at f25
        refine AW.reg hS [(10, .pv (.slice (List.map (PV.int .i64) r9))), (11, ai r12), (12, as_ s23)] [] ?_ ?_
        · simp -implicitDefEqProofs only [RUNS, qindex, Nat.reduceAdd, Nat.reduceLeDiff, Nat.reduceSub, reduceIte, Nat.reduceEqDiff, Nat.reduceLT, reduceCtorEq, Nat.reduceMul, Nat.reduceBEq, Int.reduceEq, if_true, if_false, eq_self, ne_eq, env_bT, T_9, T_35, Token.pv_eq, Part.pv_eq, Nat.sub_zero, List.drop_zero, f19.1, f19.2.1, f19l, f19.2.2.2.1, f19.2.2.2.2, List.map_take, List.map_drop, List.length_map, Int.toNat_natCast, Int.toNat_zero, str_all, pf_22, f22, eqT_9, f25.1, f25.2] <;> (try simp only [List.length_take, List.length_drop, List.length_map])
        clear f19 f19l
        refine AW.seq ?_
        replace h := Option.bind_eq_some_iff.1 h; obtain ⟨n26, q27, h⟩ := h
        have f28 := lidx_f q27
        refine AW.dreg mixed hS (hpf ▸ (by kernel_rfl : orderOK pfn _ = true)) [(6, as_ s23), (7, ai n26), (8, ai 0)] [] ?_ ?_
        · simp -implicitDefEqProofs only [RUNS, qindex, Nat.reduceAdd, Nat.reduceLeDiff, Nat.reduceSub, reduceIte, Nat.reduceEqDiff, Nat.reduceLT, reduceCtorEq, Nat.reduceMul, Nat.reduceBEq, Int.reduceEq, if_true, if_false, eq_self, ne_eq, env_bT, T_3, T_45, Token.pv_eq, Part.pv_eq, f28.1, f28.2.1]
        refine AW.ret ?_
        cases h
        show finish _ _ _ _ _ = _
        first | rfl | (simp [finish, resOf, renArgs, toPV, selObjs, sl])
      · replace h := bif_f hb16 h
        refine AW.skip ?_
        refine AW.seq ?_
        replace h := Option.bind_eq_some_iff.1 h; obtain ⟨n29, q30, h⟩ := h
        have f31 := lidx_f q30
        refine AW.dreg mixed hS (hpf ▸ (by kernel_rfl : orderOK pfn _ = true)) [(6, as_ []), (7, ai n29), (8, ai 0)] [] ?_ ?_
        · simp -implicitDefEqProofs only [RUNS, qindex, Nat.reduceAdd, Nat.reduceLeDiff, Nat.reduceSub, reduceIte, Nat.reduceEqDiff, Nat.reduceLT, reduceCtorEq, Nat.reduceMul, Nat.reduceBEq, Int.reduceEq, if_true, if_false, eq_self, ne_eq, env_bT, T_3, T_45, Token.pv_eq, Part.pv_eq, f31.1, f31.2.1]
        refine AW.ret ?_
        cases h
        show finish _ _ _ _ _ = _
        first | rfl | (simp [finish, resOf, renArgs, toPV, selObjs, sl])

set_option maxHeartbeats 4000000 in
theorem g_F26x2 {O : Orc} (hS : Sound env O) (hpf : O.pf = pfn) (off1 : Int) (e2 : Int) (x3 : Str) (x4 : Int) (x5 : Int) (x6 : Int) (x7 : Int) (l8 : List Token) (l9 : List Str) (r10 : Bool) (x11 : Int) (x12 : Int) (h : F26x2 off1 e2 x3 x4 x5 x6 x7 l8 l9 = some (r10, x11, x12)) : Good env 26 [.ref 0 0, ai off1, ai e2] [.var [as_ x3, ai x4, .vec 1 l8.length, .vec 2 l9.length, ai x5, ai x6, ai x7], .row 32 4 (List.map Token.pv l8) true, .row 9 1 (List.map PV.str l9) true] [ab r10] [.var [as_ x3, ai x4, .vec 1 l8.length, .vec 2 l9.length, ai x5, ai x11, ai x12], .row 32 4 (List.map Token.pv l8) true, .row 9 1 (List.map PV.str l9) true] := by
  refine Good.start (fn := Tryz.f26) (N := 15) fn_26 rfl rfl (by simp) [] _ rfl rfl ?_
  rw [F26x2] at h
  refine AW.seq ?_
  refine AW.reg hS [(0, .ref 0 0), (1, ai off1), (2, ai e2)] [.var [as_ x3, ai x4, .vec 1 l8.length, .vec 2 l9.length, ai x5, ai x6, ai x7], .row 32 4 (List.map Token.pv l8) true, .row 9 1 (List.map PV.str l9) true] ?_ ?_
  · simp -implicitDefEqProofs only [RUNS, qindex, Nat.reduceAdd, Nat.reduceLeDiff, Nat.reduceSub, reduceIte, Nat.reduceEqDiff, Nat.reduceLT, reduceCtorEq, Nat.reduceMul, Nat.reduceBEq, Int.reduceEq, if_true, if_false, eq_self, ne_eq, env_bT, Token.pv_eq, Part.pv_eq]
  refine AW.seq ?_
  refine AW.reg hS [] [.var [as_ x3, ai x4, .vec 1 l8.length, .vec 2 l9.length, ai x5, ai off1, ai e2], .row 32 4 (List.map Token.pv l8) true, .row 9 1 (List.map PV.str l9) true] ?_ ?_
  · simp -implicitDefEqProofs only [RUNS, qindex, Nat.reduceAdd, Nat.reduceLeDiff, Nat.reduceSub, reduceIte, Nat.reduceEqDiff, Nat.reduceLT, reduceCtorEq, Nat.reduceMul, Nat.reduceBEq, Int.reduceEq, if_true, if_false, eq_self, ne_eq, env_bT, T_3, T_24, T_37, Token.pv_eq, Part.pv_eq]
  refine AW.seq ?_
  refine AW.reg hS [(6, ab false)] [.var [as_ x3, ai x4, .vec 1 l8.length, .vec 2 l9.length, ai x5, ai off1, ai e2], .row 32 4 (List.map Token.pv l8) true, .row 9 1 (List.map PV.str l9) true] ?_ ?_
  · simp -implicitDefEqProofs only [RUNS, qindex, Nat.reduceAdd, Nat.reduceLeDiff, Nat.reduceSub, reduceIte, Nat.reduceEqDiff, Nat.reduceLT, reduceCtorEq, Nat.reduceMul, Nat.reduceBEq, Int.reduceEq, if_true, if_false, eq_self, ne_eq, env_bT, Token.pv_eq, Part.pv_eq]
  refine AW.ret ?_
  cases h
  show finish _ _ _ _ _ = _
  first | rfl | (simp [finish, resOf, renArgs, toPV, selObjs, sl])

set_option maxHeartbeats 4000000 in
theorem g_F25x1 {O : Orc} (hS : Sound env O) (hpf : O.pf = pfn) (c_F26x2 : C_F26x2 O) (t1 : Token) (x2 : Str) (x3 : Int) (x4 : Int) (x5 : Int) (x6 : Int) (l7 : List Token) (l8 : List Str) (r9 : Bool) (x10 : Int) (x11 : Int) (o12 : List Token) (h : F25x1 t1 x2 x3 x4 x5 x6 l7 l8 = some (r9, x10, x11, o12)) : Good env 25 [.ref 0 0, .pv (.agg [.int .i64 t1.kind_, .int .i64 t1.at_, .str t1.text_, .str t1.quoted_])] [.var [as_ x2, ai x3, .vec 1 l7.length, .vec 2 l8.length, ai x4, ai x5, ai x6], .row 32 4 (List.map Token.pv l7) true, .row 9 1 (List.map PV.str l8) true] [ab r9] [.var [as_ x2, ai x3, .vec 1 o12.length, .vec 2 l8.length, ai x4, ai x10, ai x11], .row 32 4 (List.map Token.pv o12) true, .row 9 1 (List.map PV.str l8) true] := by
  have pf_26 : O.pf 26 = false := by rw [hpf]; rfl
  refine Good.start (fn := Tryz.f25) (N := 25) fn_25 rfl rfl (by simp) [] _ rfl rfl ?_
  rw [F25x1] at h
  refine AW.seq ?_
  refine AW.reg hS [(0, .ref 0 0), (3, .ref 3 0)] [.var [as_ x2, ai x3, .vec 1 l7.length, .vec 2 l8.length, ai x4, ai x5, ai x6], .row 32 4 (List.map Token.pv l7) true, .row 9 1 (List.map PV.str l8) true, .var [ai t1.kind_, ai t1.at_, as_ t1.text_, as_ t1.quoted_]] ?_ ?_
  · simp -implicitDefEqProofs only [RUNS, qindex, Nat.reduceAdd, Nat.reduceLeDiff, Nat.reduceSub, reduceIte, Nat.reduceEqDiff, Nat.reduceLT, reduceCtorEq, Nat.reduceMul, Nat.reduceBEq, Int.reduceEq, if_true, if_false, eq_self, ne_eq, env_bT, T_32, Token.pv_eq, Part.pv_eq]
  refine AW.seq ?_
  refine AW.seq ?_
  refine AW.reg hS [(0, .ref 0 0), (3, .ref 3 0), (10, ab (decide (1024 ≤ (l7.length : Int))))] [.var [as_ x2, ai x3, .vec 1 l7.length, .vec 2 l8.length, ai x4, ai x5, ai x6], .row 32 4 (List.map Token.pv l7) true, .row 9 1 (List.map PV.str l8) true, .var [ai t1.kind_, ai t1.at_, as_ t1.text_, as_ t1.quoted_]] ?_ ?_
  · simp -implicitDefEqProofs only [RUNS, qindex, Nat.reduceAdd, Nat.reduceLeDiff, Nat.reduceSub, reduceIte, Nat.reduceEqDiff, Nat.reduceLT, reduceCtorEq, Nat.reduceMul, Nat.reduceBEq, Int.reduceEq, if_true, if_false, eq_self, ne_eq, env_bT, T_3, T_23, T_32, T_37, Token.pv_eq, Part.pv_eq, eqT_3]
  refine AW.cond (b := decide (1024 ≤ (l7.length : Int))) rfl (fun hb13 => ?_) (fun hb13 => ?_)
  · replace h := bif_t hb13 h
    refine AW.seq ?_
    replace h := Option.bind_eq_some_iff.1 h; obtain ⟨⟨r14, x15, x16⟩, q17, h⟩ := h
    dsimp only at h
    have f18 := c_F26x2 t1.at_ 4 x2 x3 x4 x5 x6 l7 l8 r14 x15 x16 q17
    try dsimp only at f18
    have e19 : ecall O [.var [as_ x2, ai x3, .vec 1 l7.length, .vec 2 l8.length, ai x4, ai x5, ai x6], .row 32 4 (List.map Token.pv l7) true, .row 9 1 (List.map PV.str l8) true, .var [ai t1.kind_, ai t1.at_, as_ t1.text_, as_ t1.quoted_]] 26 [.ref 0 0, ai t1.at_, ai 4] = some (retAV [ab r14], [.var [as_ x2, ai x3, .vec 1 l7.length, .vec 2 l8.length, ai x4, ai x15, ai x16], .row 32 4 (List.map Token.pv l7) true, .row 9 1 (List.map PV.str l8) true, .var [ai t1.kind_, ai t1.at_, as_ t1.text_, as_ t1.quoted_]]) := ecall_eq rfl rfl rfl f18 rfl rfl rfl
    refine AW.reg hS [(4, ab r14)] [.var [as_ x2, ai x3, .vec 1 l7.length, .vec 2 l8.length, ai x4, ai x15, ai x16], .row 32 4 (List.map Token.pv l7) true, .row 9 1 (List.map PV.str l8) true, .var [ai t1.kind_, ai t1.at_, as_ t1.text_, as_ t1.quoted_]] ?_ ?_
    · simp -implicitDefEqProofs only [RUNS, qindex, Nat.reduceAdd, Nat.reduceLeDiff, Nat.reduceSub, reduceIte, Nat.reduceEqDiff, Nat.reduceLT, reduceCtorEq, Nat.reduceMul, Nat.reduceBEq, Int.reduceEq, if_true, if_false, eq_self, ne_eq, env_bT, T_3, T_24, T_32, T_34, Token.pv_eq, Part.pv_eq, pf_26, e19]
    refine AW.ret ?_
    cases h
    show finish _ _ _ _ _ = _
    first | rfl | (simp [finish, resOf, renArgs, toPV, selObjs, sl])
  · replace h := bif_f hb13 h
    refine AW.skip ?_
    refine AW.seq ?_
    replace h := Option.bind_eq_some_iff.1 h; obtain ⟨out20, q21, h⟩ := h
    have f22 := appO_f q21
    try simp only [List.length_cons, List.length_nil, Nat.zero_add, Nat.reduceAdd, Nat.reduceLeDiff, Nat.add_zero, Nat.reduceMul] at f22
    refine AW.dregB mixed hS [(3, some 3)] rfl (hpf ▸ (by kernel_rfl : orderOKB pfn [(3, some 3)] _ = true)) [] [.var [as_ x2, ai x3, .vec 1 out20.length, .vec 2 l8.length, ai x4, ai x5, ai x6], .row 32 4 (List.map Token.pv out20) true, .row 9 1 (List.map PV.str l8) true, .var [ai t1.kind_, ai t1.at_, as_ t1.text_, as_ t1.quoted_]] ?_ ?_
    · simp -implicitDefEqProofs only [RUNS, qindex, Nat.reduceAdd, Nat.reduceLeDiff, Nat.reduceSub, reduceIte, Nat.reduceEqDiff, Nat.reduceLT, reduceCtorEq, Nat.reduceMul, Nat.reduceBEq, Int.reduceEq, if_true, if_false, eq_self, ne_eq, env_bT, T_23, T_32, T_37, Token.pv_eq, Part.pv_eq, ownT_23, f22.1, f22.2, Token.all] <;> (try simp only [List.length_take, List.length_drop, List.length_map])
    clear f22
    refine AW.seq ?_
    refine AW.reg hS [(4, ab true)] [.var [as_ x2, ai x3, .vec 1 out20.length, .vec 2 l8.length, ai x4, ai x5, ai x6], .row 32 4 (List.map Token.pv out20) true, .row 9 1 (List.map PV.str l8) true, .var [ai t1.kind_, ai t1.at_, as_ t1.text_, as_ t1.quoted_]] ?_ ?_
    · simp -implicitDefEqProofs only [RUNS, qindex, Nat.reduceAdd, Nat.reduceLeDiff, Nat.reduceSub, reduceIte, Nat.reduceEqDiff, Nat.reduceLT, reduceCtorEq, Nat.reduceMul, Nat.reduceBEq, Int.reduceEq, if_true, if_false, eq_self, ne_eq, env_bT, Token.pv_eq, Part.pv_eq]
    refine AW.ret ?_
    cases h
    show finish _ _ _ _ _ = _
    first | rfl | (simp [finish, resOf, renArgs, toPV, selObjs, sl])

set_option maxHeartbeats 4000000 in
theorem g_F12x2 {O : Orc} (hS : Sound env O) (hpf : O.pf = pfn) (x1 : Str) (x2 : Int) (x3 : Int) (x4 : Int) (x5 : Int) (l6 : List Token) (l7 : List Str) (r8 : Str) (h : F12x2 x1 x2 x3 x4 x5 l6 l7 = some r8) : Good env 12 [.ref 0 0] [.var [as_ x1, ai x2, .vec 1 l6.length, .vec 2 l7.length, ai x3, ai x4, ai x5], .row 32 4 (List.map Token.pv l6) true, .row 9 1 (List.map PV.str l7) true] [as_ r8] [.var [as_ x1, ai x2, .vec 1 l6.length, .vec 2 l7.length, ai x3, ai x4, ai x5], .row 32 4 (List.map Token.pv l6) true, .row 9 1 (List.map PV.str l7) true] := by
  refine Good.start (fn := Tryz.f12) (N := 12) fn_12 rfl rfl (by simp) [] _ rfl rfl ?_
  rw [F12x2] at h
  refine AW.seq ?_
  refine AW.reg hS [(0, .ref 0 0)] [.var [as_ x1, ai x2, .vec 1 l6.length, .vec 2 l7.length, ai x3, ai x4, ai x5], .row 32 4 (List.map Token.pv l6) true, .row 9 1 (List.map PV.str l7) true] ?_ ?_
  · simp -implicitDefEqProofs only [RUNS, qindex, Nat.reduceAdd, Nat.reduceLeDiff, Nat.reduceSub, reduceIte, Nat.reduceEqDiff, Nat.reduceLT, reduceCtorEq, Nat.reduceMul, Nat.reduceBEq, Int.reduceEq, if_true, if_false, eq_self, ne_eq, env_bT, Token.pv_eq, Part.pv_eq]
  refine AW.seq ?_
  replace h := Option.bind_eq_some_iff.1 h; obtain ⟨t9, q10, h⟩ := h
  have f11 := sslice_f q10
  have f11e := f11.2.2.2.2
  try simp only [Int.toNat_natCast, Int.toNat_zero, List.drop_zero] at f11e
  have f11l := f11.2.2.1
  try simp only [Int.toNat_natCast, Int.toNat_zero] at f11l
  refine AW.dreg mixed hS (hpf ▸ (by kernel_rfl : orderOK pfn _ = true)) [(2, as_ t9)] [.var [as_ x1, ai x2, .vec 1 l6.length, .vec 2 l7.length, ai x3, ai x4, ai x5], .row 32 4 (List.map Token.pv l6) true, .row 9 1 (List.map PV.str l7) true] ?_ ?_
  · simp -implicitDefEqProofs only [RUNS, qindex, Nat.reduceAdd, Nat.reduceLeDiff, Nat.reduceSub, reduceIte, Nat.reduceEqDiff, Nat.reduceLT, reduceCtorEq, Nat.reduceMul, Nat.reduceBEq, Int.reduceEq, if_true, if_false, eq_self, ne_eq, env_bT, T_3, T_9, T_37, Token.pv_eq, Part.pv_eq, f11.1, f11.2.1, f11l, f11.2.2.2.1, f11e, Int.toNat_natCast, Int.toNat_zero]
  refine AW.ret ?_
  cases h
  show finish _ _ _ _ _ = _
  first | rfl | (simp [finish, resOf, renArgs, toPV, selObjs, sl])

set_option maxHeartbeats 4000000 in
theorem g_F11x2 {O : Orc} (hS : Sound env O) (hpf : O.pf = pfn) (c_F12x2 : C_F12x2 O) (c_F15 : C_F15 O) (x1 : Str) (x2 : Int) (x3 : Int) (x4 : Int) (x5 : Int) (l6 : List Token) (l7 : List Str) (x8 : Int) (h : F11x2 x1 x2 x3 x4 x5 l6 l7 = some x8) : Good env 11 [.ref 0 0] [.var [as_ x1, ai x2, .vec 1 l6.length, .vec 2 l7.length, ai x3, ai x4, ai x5], .row 32 4 (List.map Token.pv l6) true, .row 9 1 (List.map PV.str l7) true] [] [.var [as_ x1, ai x8, .vec 1 l6.length, .vec 2 l7.length, ai x3, ai x4, ai x5], .row 32 4 (List.map Token.pv l6) true, .row 9 1 (List.map PV.str l7) true] := by
  have pf_12 : O.pf 12 = false := by rw [hpf]; rfl
  have pf_15 : O.pf 15 = true := by rw [hpf]; rfl
  refine Good.start (fn := Tryz.f11) (N := 29) fn_11 rfl rfl (by simp) [] _ rfl rfl ?_
  rw [F11x2] at h
  refine AW.block ?_
  refine AW.weak (Weak.slots (L := [(0, .ref 0 0)]) ⟨rfl, trivial⟩) ?_
  refine AW.loopI (α := Nat × Int) (fun (_, x9) => ⟨sl [(0, .ref 0 0)], 29, [.var [as_ x1, ai x9, .vec 1 l6.length, .vec 2 l7.length, ai x3, ai x4, ai x5], .row 32 4 (List.map Token.pv l6) true, .row 9 1 (List.map PV.str l7) true]⟩) (fun x => iter (F11x2_b1 x1 x3 x4 x5 l6 l7) x.1 x.2 = some x8) (fun x => x.1) (BIG, x2) h ?_
  clear h
  intro ⟨n28, x9⟩ h
  replace h := iter_some h; obtain ⟨m12, rfl, h⟩ := h
  rw [F11x2_b1] at h
  try dsimp only at h
  show AW _ _ _ _ ⟨sl [(0, .ref 0 0)], 29, [.var [as_ x1, ai x9, .vec 1 l6.length, .vec 2 l7.length, ai x3, ai x4, ai x5], .row 32 4 (List.map Token.pv l6) true, .row 9 1 (List.map PV.str l7) true]⟩
  refine AW.block ?_
  refine AW.seq ?_
  replace h := Option.bind_eq_some_iff.1 h; obtain ⟨r13, q14, h⟩ := h
  have f15 := c_F12x2 x1 x9 x3 x4 x5 l6 l7 r13 q14
  try dsimp only at f15
  have e16 : ecall O [.var [as_ x1, ai x9, .vec 1 l6.length, .vec 2 l7.length, ai x3, ai x4, ai x5], .row 32 4 (List.map Token.pv l6) true, .row 9 1 (List.map PV.str l7) true] 12 [.ref 0 0] = some (retAV [as_ r13], [.var [as_ x1, ai x9, .vec 1 l6.length, .vec 2 l7.length, ai x3, ai x4, ai x5], .row 32 4 (List.map Token.pv l6) true, .row 9 1 (List.map PV.str l7) true]) := ecall_eq rfl rfl rfl f15 rfl rfl rfl
  refine AW.reg hS [(0, .ref 0 0), (2, as_ r13)] [.var [as_ x1, ai x9, .vec 1 l6.length, .vec 2 l7.length, ai x3, ai x4, ai x5], .row 32 4 (List.map Token.pv l6) true, .row 9 1 (List.map PV.str l7) true] ?_ ?_
  · simp -implicitDefEqProofs only [RUNS, qindex, Nat.reduceAdd, Nat.reduceLeDiff, Nat.reduceSub, reduceIte, Nat.reduceEqDiff, Nat.reduceLT, reduceCtorEq, Nat.reduceMul, Nat.reduceBEq, Int.reduceEq, if_true, if_false, eq_self, ne_eq, env_bT, T_34, Token.pv_eq, Part.pv_eq, pf_12, e16]
  refine AW.block ?_
  refine AW.seq ?_
  replace h := Option.bind_eq_some_iff.1 h; obtain ⟨r17, q18, h⟩ := h
  have f19 := c_F15 r13 [32] r17 q18
  try dsimp only at f19
  try simp only [List.map_cons, List.map_nil, Token.pv_eq, Part.pv_eq] at f19
  replace h := Option.bind_eq_some_iff.1 h; obtain ⟨r20, q21, h⟩ := h
  have f22 := fun hg => c_F15 r13 [9] r20 (guardO_t q21 hg)
  try dsimp only at f22
  try simp only [List.map_cons, List.map_nil, Token.pv_eq, Part.pv_eq] at f22
  refine AW.reg hS [(0, .ref 0 0), (2, as_ r13), (5, ab (r17 || r20))] [.var [as_ x1, ai x9, .vec 1 l6.length, .vec 2 l7.length, ai x3, ai x4, ai x5], .row 32 4 (List.map Token.pv l6) true, .row 9 1 (List.map PV.str l7) true] ?_ ?_
  · clear h
    (simp -implicitDefEqProofs only [RUNS, qindex, Nat.reduceAdd, Nat.reduceLeDiff, Nat.reduceSub, reduceIte, Nat.reduceEqDiff, Nat.reduceLT, reduceCtorEq, Nat.reduceMul, Nat.reduceBEq, Int.reduceEq, if_true, if_false, eq_self, ne_eq, env_bT, T_9, Token.pv_eq, Part.pv_eq, pf_15, f19, f22]); repeat' (split <;> rename_i hb <;> (try simp only [HBS, ge_iff_le, gt_iff_lt] at hb) <;> simp -implicitDefEqProofs only [RUNS, qindex, Nat.reduceAdd, Nat.reduceLeDiff, Nat.reduceSub, reduceIte, Nat.reduceEqDiff, Nat.reduceLT, reduceCtorEq, Nat.reduceMul, Nat.reduceBEq, Int.reduceEq, if_true, if_false, eq_self, ne_eq, env_bT, T_9, Token.pv_eq, Part.pv_eq, pf_15, f19, f22, *, decide_true, decide_false, Decidable.not_not, not_false_eq_true, not_true_eq_false])
    all_goals (first | (simp only [BOOLS]; done) | (simp [*]; done) | ((try simp only [CLOS, beq_iff_eq, bne_iff_ne, ne_eq] at *) <;> omega) | (simp_all; done) | (simp_all <;> omega))
  refine AW.cond (b := (r17 || r20)) rfl (fun hb23 => ?_) (fun hb23 => ?_)
  · replace h := bif_t hb23 h
    refine AW.reg hS [(0, .ref 0 0)] [.var [as_ x1, ai (IntKind.wrap .i64 (x9 + 1)), .vec 1 l6.length, .vec 2 l7.length, ai x3, ai x4, ai x5], .row 32 4 (List.map Token.pv l6) true, .row 9 1 (List.map PV.str l7) true] ?_ ?_
    · simp -implicitDefEqProofs only [RUNS, qindex, Nat.reduceAdd, Nat.reduceLeDiff, Nat.reduceSub, reduceIte, Nat.reduceEqDiff, Nat.reduceLT, reduceCtorEq, Nat.reduceMul, Nat.reduceBEq, Int.reduceEq, if_true, if_false, eq_self, ne_eq, env_bT, T_3, T_37, Token.pv_eq, Part.pv_eq, eqT_3]
    exact ⟨(m12, IntKind.wrap .i64 (x9 + 1)), h, (Weak.norm (m := 3) (Nat.le_of_ble_eq_true rfl) ⟨rfl, trivial⟩ rfl rfl rfl), Nat.lt_succ_self _⟩
  · replace h := bif_f hb23 h
    refine AW.seq ?_
    replace h := Option.bind_eq_some_iff.1 h; obtain ⟨r24, q25, h⟩ := h
    have f26 := c_F15 r13 [92, 10] r24 q25
    try dsimp only at f26
    try simp only [List.map_cons, List.map_nil, Token.pv_eq, Part.pv_eq] at f26
    refine AW.reg hS [(0, .ref 0 0), (19, ab r24)] [.var [as_ x1, ai x9, .vec 1 l6.length, .vec 2 l7.length, ai x3, ai x4, ai x5], .row 32 4 (List.map Token.pv l6) true, .row 9 1 (List.map PV.str l7) true] ?_ ?_
    · simp -implicitDefEqProofs only [RUNS, qindex, Nat.reduceAdd, Nat.reduceLeDiff, Nat.reduceSub, reduceIte, Nat.reduceEqDiff, Nat.reduceLT, reduceCtorEq, Nat.reduceMul, Nat.reduceBEq, Int.reduceEq, if_true, if_false, eq_self, ne_eq, env_bT, T_9, Token.pv_eq, Part.pv_eq, pf_15, f26]
    refine AW.cond (b := r24) rfl (fun hb27 => ?_) (fun hb27 => ?_)
    · replace h := bif_t hb27 h
      refine AW.reg hS [(0, .ref 0 0)] [.var [as_ x1, ai (IntKind.wrap .i64 (x9 + 2)), .vec 1 l6.length, .vec 2 l7.length, ai x3, ai x4, ai x5], .row 32 4 (List.map Token.pv l6) true, .row 9 1 (List.map PV.str l7) true] ?_ ?_
      · simp -implicitDefEqProofs only [RUNS, qindex, Nat.reduceAdd, Nat.reduceLeDiff, Nat.reduceSub, reduceIte, Nat.reduceEqDiff, Nat.reduceLT, reduceCtorEq, Nat.reduceMul, Nat.reduceBEq, Int.reduceEq, if_true, if_false, eq_self, ne_eq, env_bT, T_3, T_37, Token.pv_eq, Part.pv_eq, eqT_3]
      exact ⟨(m12, IntKind.wrap .i64 (x9 + 2)), h, (Weak.norm (m := 3) (Nat.le_of_ble_eq_true rfl) ⟨rfl, trivial⟩ rfl rfl rfl), Nat.lt_succ_self _⟩
    · replace h := bif_f hb27 h
      refine AW.ret ?_
      cases h
      show finish _ _ _ _ _ = _
      first | rfl | (simp [finish, resOf, renArgs, toPV, selObjs, sl])

set_option maxHeartbeats 4000000 in
theorem g_F14x1 {O : Orc} (hS : Sound env O) (hpf : O.pf = pfn) (c_F25x1 : C_F25x1 O) (c_F8 : C_F8 O) (c_F26x2 : C_F26x2 O) (x1 : Str) (x2 : Int) (x3 : Int) (x4 : Int) (x5 : Int) (l6 : List Token) (l7 : List Str) (tag8 : Bool) (r9 : Bool) (x10 : Int) (x11 : Int) (x12 : Int) (o13 : List Token) (h : F14x1 x1 x2 x3 x4 x5 l6 l7 = some (tag8, r9, x10, x11, x12, o13)) : Good env 14 [.ref 0 0] [.var [as_ x1, ai x2, .vec 1 l6.length, .vec 2 l7.length, ai x3, ai x4, ai x5], .row 32 4 (List.map Token.pv l6) true, .row 9 1 (List.map PV.str l7) true] [ab r9] (bif tag8 then [.var [as_ x1, ai x10, .vec 1 o13.length, .nils, ai x3, ai x11, ai x12], .row 32 4 (List.map Token.pv o13) true, .row 9 1 (List.map PV.str l7) true] else [.var [as_ x1, ai x10, .vec 1 o13.length, .vec 2 l7.length, ai x3, ai x11, ai x12], .row 32 4 (List.map Token.pv o13) true, .row 9 1 (List.map PV.str l7) true]) := by
  have pf_8 : O.pf 8 = true := by rw [hpf]; rfl
  have pf_25 : O.pf 25 = false := by rw [hpf]; rfl
  have pf_26 : O.pf 26 = false := by rw [hpf]; rfl
  refine Good.start (fn := Tryz.f14) (N := 63) fn_14 rfl rfl (by simp) [] _ rfl rfl ?_
  rw [F14x1] at h
  refine AW.seq ?_
  refine AW.reg hS [(0, .ref 0 0)] [.var [as_ x1, ai x2, .vec 1 l6.length, .vec 2 l7.length, ai x3, ai x4, ai x5], .row 32 4 (List.map Token.pv l6) true, .row 9 1 (List.map PV.str l7) true] ?_ ?_
  · simp -implicitDefEqProofs only [RUNS, qindex, Nat.reduceAdd, Nat.reduceLeDiff, Nat.reduceSub, reduceIte, Nat.reduceEqDiff, Nat.reduceLT, reduceCtorEq, Nat.reduceMul, Nat.reduceBEq, Int.reduceEq, if_true, if_false, eq_self, ne_eq, env_bT, Token.pv_eq, Part.pv_eq]
  refine AW.seq ?_
  refine AW.seq ?_
  replace h := Option.bind_eq_some_iff.1 h; obtain ⟨⟨r14, x15, x16, o17⟩, q18, h⟩ := h
  dsimp only at h
  have f19 := c_F25x1 (Token.mk 3 x2 [10] []) x1 x2 x3 x4 x5 l6 l7 r14 x15 x16 o17 q18
  try dsimp only at f19
  have e20 : ecall O [.var [as_ x1, ai x2, .vec 1 l6.length, .vec 2 l7.length, ai x3, ai x4, ai x5], .row 32 4 (List.map Token.pv l6) true, .row 9 1 (List.map PV.str l7) true] 25 [.ref 0 0, .pv (.agg [.int .i64 3, .int .i64 x2, .str [10], .str []])] = some (retAV [ab r14], [.var [as_ x1, ai x2, .vec 1 o17.length, .vec 2 l7.length, ai x3, ai x15, ai x16], .row 32 4 (List.map Token.pv o17) true, .row 9 1 (List.map PV.str l7) true]) := ecall_eq rfl rfl rfl f19 rfl rfl rfl
  refine AW.reg hS [(0, .ref 0 0), (15, ab (!r14))] [.var [as_ x1, ai x2, .vec 1 o17.length, .vec 2 l7.length, ai x3, ai x15, ai x16], .row 32 4 (List.map Token.pv o17) true, .row 9 1 (List.map PV.str l7) true] ?_ ?_
  · simp -implicitDefEqProofs only [RUNS, qindex, Nat.reduceAdd, Nat.reduceLeDiff, Nat.reduceSub, reduceIte, Nat.reduceEqDiff, Nat.reduceLT, reduceCtorEq, Nat.reduceMul, Nat.reduceBEq, Int.reduceEq, if_true, if_false, eq_self, ne_eq, env_bT, T_3, T_32, T_34, T_37, Token.pv_eq, Part.pv_eq, ownT_32, pf_25, e20]
  refine AW.cond (b := !r14) rfl (fun hb21 => ?_) (fun hb21 => ?_)
  · replace h := bif_t hb21 h
    refine AW.seq ?_
    refine AW.reg hS [(2, ab false)] [.var [as_ x1, ai x2, .vec 1 o17.length, .vec 2 l7.length, ai x3, ai x15, ai x16], .row 32 4 (List.map Token.pv o17) true, .row 9 1 (List.map PV.str l7) true] ?_ ?_
    · simp -implicitDefEqProofs only [RUNS, qindex, Nat.reduceAdd, Nat.reduceLeDiff, Nat.reduceSub, reduceIte, Nat.reduceEqDiff, Nat.reduceLT, reduceCtorEq, Nat.reduceMul, Nat.reduceBEq, Int.reduceEq, if_true, if_false, eq_self, ne_eq, env_bT, Token.pv_eq, Part.pv_eq]
    refine AW.ret ?_
    cases h
    show finish _ _ _ _ _ = _
    first | rfl | (simp [finish, resOf, renArgs, toPV, selObjs, sl])
  · replace h := bif_f hb21 h
    refine AW.skip ?_
    refine AW.seq ?_
    refine AW.reg hS [(0, .ref 0 0)] [.var [as_ x1, ai (IntKind.wrap .i64 (x2 + 1)), .vec 1 o17.length, .vec 2 l7.length, ai x3, ai x15, ai x16], .row 32 4 (List.map Token.pv o17) true, .row 9 1 (List.map PV.str l7) true] ?_ ?_
    · simp -implicitDefEqProofs only [RUNS, qindex, Nat.reduceAdd, Nat.reduceLeDiff, Nat.reduceSub, reduceIte, Nat.reduceEqDiff, Nat.reduceLT, reduceCtorEq, Nat.reduceMul, Nat.reduceBEq, Int.reduceEq, if_true, if_false, eq_self, ne_eq, env_bT, T_3, T_37, Token.pv_eq, Part.pv_eq, eqT_3]
    refine AW.seq ?_
    refine AW.seq ?_
    refine AW.reg hS [(0, .ref 0 0), (26, .vec 2 l7.length), (27, ai (l7.length : Int)), (28, ai 0)] [.var [as_ x1, ai (IntKind.wrap .i64 (x2 + 1)), .vec 1 o17.length, .vec 2 l7.length, ai x3, ai x15, ai x16], .row 32 4 (List.map Token.pv o17) true, .row 9 1 (List.map PV.str l7) true] ?_ ?_
    · simp -implicitDefEqProofs only [RUNS, qindex, Nat.reduceAdd, Nat.reduceLeDiff, Nat.reduceSub, reduceIte, Nat.reduceEqDiff, Nat.reduceLT, reduceCtorEq, Nat.reduceMul, Nat.reduceBEq, Int.reduceEq, if_true, if_false, eq_self, ne_eq, env_bT, T_9, T_35, T_37, Token.pv_eq, Part.pv_eq]
    refine AW.block ?_
    refine AW.weak (Weak.slots (L := [(0, .ref 0 0), (26, .vec 2 l7.length), (27, ai (l7.length : Int)), (28, ai 0)]) ⟨rfl, rfl, rfl, rfl, trivial⟩) ?_
    refine AW.loopI (α := Nat × Int × Int) (fun (_, i22, x23) => ⟨sl [(0, .ref 0 0), (26, .vec 2 l7.length), (27, ai (l7.length : Int)), (28, ai i22)], 63, [.var [as_ x1, ai x23, .vec 1 o17.length, .vec 2 l7.length, ai x3, ai x15, ai x16], .row 32 4 (List.map Token.pv o17) true, .row 9 1 (List.map PV.str l7) true]⟩) (fun x => iter (F14x1_b1 l7 x1 x3 x15 x16 o17) x.1 x.2 = some (tag8, r9, x10, x11, x12, o13)) (fun x => x.1) (BIG, (0, IntKind.wrap .i64 (x2 + 1))) h ?_
    clear h
    intro ⟨n43, i22, x23⟩ h
    replace h := iter_some h; obtain ⟨m26, rfl, h⟩ := h
    rw [F14x1_b1] at h
    try dsimp only at h
    show AW _ _ _ _ ⟨sl [(0, .ref 0 0), (26, .vec 2 l7.length), (27, ai (l7.length : Int)), (28, ai i22)], 63, [.var [as_ x1, ai x23, .vec 1 o17.length, .vec 2 l7.length, ai x3, ai x15, ai x16], .row 32 4 (List.map Token.pv o17) true, .row 9 1 (List.map PV.str l7) true]⟩
    refine AW.seq ?_
    refine AW.reg hS [(0, .ref 0 0), (26, .vec 2 l7.length), (27, ai (l7.length : Int)), (28, ai i22), (29, ab (decide (i22 < (l7.length : Int))))] [.var [as_ x1, ai x23, .vec 1 o17.length, .vec 2 l7.length, ai x3, ai x15, ai x16], .row 32 4 (List.map Token.pv o17) true, .row 9 1 (List.map PV.str l7) true] ?_ ?_
    · simp -implicitDefEqProofs only [RUNS, qindex, Nat.reduceAdd, Nat.reduceLeDiff, Nat.reduceSub, reduceIte, Nat.reduceEqDiff, Nat.reduceLT, reduceCtorEq, Nat.reduceMul, Nat.reduceBEq, Int.reduceEq, if_true, if_false, eq_self, ne_eq, env_bT, T_3, Token.pv_eq, Part.pv_eq, eqT_3]
    refine AW.seq ?_
    refine AW.cond (b := decide (i22 < (l7.length : Int))) rfl (fun hb27 => ?_) (fun hb27 => ?_)
    · replace h := bif_t hb27 h
      refine AW.skip ?_
      refine AW.seq ?_
      refine AW.block ?_
      refine AW.seq ?_
      replace h := Option.bind_eq_some_iff.1 h; obtain ⟨w28, q29, h⟩ := h
      have f30 := lidx_f q29
      refine AW.reg hS [(0, .ref 0 0), (4, as_ w28), (26, .vec 2 l7.length), (27, ai (l7.length : Int)), (28, ai i22)] [.var [as_ x1, ai x23, .vec 1 o17.length, .vec 2 l7.length, ai x3, ai x15, ai x16], .row 32 4 (List.map Token.pv o17) true, .row 9 1 (List.map PV.str l7) true] ?_ ?_
      · simp -implicitDefEqProofs only [RUNS, qindex, Nat.reduceAdd, Nat.reduceLeDiff, Nat.reduceSub, reduceIte, Nat.reduceEqDiff, Nat.reduceLT, reduceCtorEq, Nat.reduceMul, Nat.reduceBEq, Int.reduceEq, if_true, if_false, eq_self, ne_eq, env_bT, T_9, T_35, Token.pv_eq, Part.pv_eq, f30.1, f30.2.1, f30.2.2]
      refine AW.seq ?_
      replace h := Option.bind_eq_some_iff.1 h; obtain ⟨⟨r31, r32, r33⟩, q34, h⟩ := h
      dsimp only at h
      have f35 := c_F8 x1 x23 w28 r31 r32 r33 q34
      try dsimp only at f35
      refine AW.dreg mixed hS (hpf ▸ (by kernel_rfl : orderOK pfn _ = true)) [(0, .ref 0 0), (6, ai r32), (7, ai r33), (26, .vec 2 l7.length), (27, ai (l7.length : Int)), (28, ai i22)] [.var [as_ x1, ai x23, .vec 1 o17.length, .vec 2 l7.length, ai x3, ai x15, ai x16], .row 32 4 (List.map Token.pv o17) true, .row 9 1 (List.map PV.str l7) true] ?_ ?_
      · simp -implicitDefEqProofs only [RUNS, qindex, Nat.reduceAdd, Nat.reduceLeDiff, Nat.reduceSub, reduceIte, Nat.reduceEqDiff, Nat.reduceLT, reduceCtorEq, Nat.reduceMul, Nat.reduceBEq, Int.reduceEq, if_true, if_false, eq_self, ne_eq, env_bT, T_3, T_9, T_37, Token.pv_eq, Part.pv_eq, pf_8, f35]
      refine AW.seq ?_
      refine AW.seq ?_
      refine AW.reg hS [(0, .ref 0 0), (6, ai r32), (7, ai r33), (26, .vec 2 l7.length), (27, ai (l7.length : Int)), (28, ai i22), (47, ab (!decide (r33 = 0)))] [.var [as_ x1, ai x23, .vec 1 o17.length, .vec 2 l7.length, ai x3, ai x15, ai x16], .row 32 4 (List.map Token.pv o17) true, .row 9 1 (List.map PV.str l7) true] ?_ ?_
      · simp -implicitDefEqProofs only [RUNS, qindex, Nat.reduceAdd, Nat.reduceLeDiff, Nat.reduceSub, reduceIte, Nat.reduceEqDiff, Nat.reduceLT, reduceCtorEq, Nat.reduceMul, Nat.reduceBEq, Int.reduceEq, if_true, if_false, eq_self, ne_eq, env_bT, T_24, Token.pv_eq, Part.pv_eq, eqT_24]
      refine AW.cond (b := !decide (r33 = 0)) rfl (fun hb36 => ?_) (fun hb36 => ?_)
      · replace h := bif_t hb36 h
        refine AW.seq ?_
        replace h := Option.bind_eq_some_iff.1 h; obtain ⟨⟨r37, x38, x39⟩, q40, h⟩ := h
        dsimp only at h
        have f41 := c_F26x2 x23 r33 x1 x23 x3 x15 x16 o17 l7 r37 x38 x39 q40
        try dsimp only at f41
        have e42 : ecall O [.var [as_ x1, ai x23, .vec 1 o17.length, .vec 2 l7.length, ai x3, ai x15, ai x16], .row 32 4 (List.map Token.pv o17) true, .row 9 1 (List.map PV.str l7) true] 26 [.ref 0 0, ai x23, ai r33] = some (retAV [ab r37], [.var [as_ x1, ai x23, .vec 1 o17.length, .vec 2 l7.length, ai x3, ai x38, ai x39], .row 32 4 (List.map Token.pv o17) true, .row 9 1 (List.map PV.str l7) true]) := ecall_eq rfl rfl rfl f41 rfl rfl rfl
        refine AW.reg hS [(2, ab r37)] [.var [as_ x1, ai x23, .vec 1 o17.length, .vec 2 l7.length, ai x3, ai x38, ai x39], .row 32 4 (List.map Token.pv o17) true, .row 9 1 (List.map PV.str l7) true] ?_ ?_
        · simp -implicitDefEqProofs only [RUNS, qindex, Nat.reduceAdd, Nat.reduceLeDiff, Nat.reduceSub, reduceIte, Nat.reduceEqDiff, Nat.reduceLT, reduceCtorEq, Nat.reduceMul, Nat.reduceBEq, Int.reduceEq, if_true, if_false, eq_self, ne_eq, env_bT, T_3, T_24, T_34, T_37, Token.pv_eq, Part.pv_eq, pf_26, e42]
        refine AW.ret ?_
        cases h
        show finish _ _ _ _ _ = _
        first | rfl | (simp [finish, resOf, renArgs, toPV, selObjs, sl])
      · replace h := bif_f hb36 h
        refine AW.skip ?_
        refine AW.reg hS [(0, .ref 0 0), (26, .vec 2 l7.length), (27, ai (l7.length : Int)), (28, ai i22)] [.var [as_ x1, ai r32, .vec 1 o17.length, .vec 2 l7.length, ai x3, ai x15, ai x16], .row 32 4 (List.map Token.pv o17) true, .row 9 1 (List.map PV.str l7) true] ?_ ?_
        · simp -implicitDefEqProofs only [RUNS, qindex, Nat.reduceAdd, Nat.reduceLeDiff, Nat.reduceSub, reduceIte, Nat.reduceEqDiff, Nat.reduceLT, reduceCtorEq, Nat.reduceMul, Nat.reduceBEq, Int.reduceEq, if_true, if_false, eq_self, ne_eq, env_bT, T_3, T_37, Token.pv_eq, Part.pv_eq]
        refine AW.reg hS [(0, .ref 0 0), (26, .vec 2 l7.length), (27, ai (l7.length : Int)), (28, ai (IntKind.wrap .i64 (i22 + 1)))] [.var [as_ x1, ai r32, .vec 1 o17.length, .vec 2 l7.length, ai x3, ai x15, ai x16], .row 32 4 (List.map Token.pv o17) true, .row 9 1 (List.map PV.str l7) true] ?_ ?_
        · simp -implicitDefEqProofs only [RUNS, qindex, Nat.reduceAdd, Nat.reduceLeDiff, Nat.reduceSub, reduceIte, Nat.reduceEqDiff, Nat.reduceLT, reduceCtorEq, Nat.reduceMul, Nat.reduceBEq, Int.reduceEq, if_true, if_false, eq_self, ne_eq, env_bT, T_3, Token.pv_eq, Part.pv_eq, eqT_3]
        exact ⟨(m26, (IntKind.wrap .i64 (i22 + 1), r32)), h, (Weak.norm (m := 3) (Nat.le_of_ble_eq_true rfl) ⟨rfl, rfl, rfl, rfl, trivial⟩ rfl rfl rfl), Nat.lt_succ_self _⟩
    · replace h := bif_f hb27 h
      refine AW.exit ?_
      refine AW.seq ?_
      refine AW.reg hS [] [.var [as_ x1, ai x23, .vec 1 o17.length, .nils, ai x3, ai x15, ai x16], .row 32 4 (List.map Token.pv o17) true, .row 9 1 (List.map PV.str l7) true] ?_ ?_
      · simp -implicitDefEqProofs only [RUNS, qindex, Nat.reduceAdd, Nat.reduceLeDiff, Nat.reduceSub, reduceIte, Nat.reduceEqDiff, Nat.reduceLT, reduceCtorEq, Nat.reduceMul, Nat.reduceBEq, Int.reduceEq, if_true, if_false, eq_self, ne_eq, env_bT, T_9, T_35, T_37, Token.pv_eq, Part.pv_eq]
      refine AW.seq ?_
      refine AW.reg hS [(2, ab true)] [.var [as_ x1, ai x23, .vec 1 o17.length, .nils, ai x3, ai x15, ai x16], .row 32 4 (List.map Token.pv o17) true, .row 9 1 (List.map PV.str l7) true] ?_ ?_
      · simp -implicitDefEqProofs only [RUNS, qindex, Nat.reduceAdd, Nat.reduceLeDiff, Nat.reduceSub, reduceIte, Nat.reduceEqDiff, Nat.reduceLT, reduceCtorEq, Nat.reduceMul, Nat.reduceBEq, Int.reduceEq, if_true, if_false, eq_self, ne_eq, env_bT, Token.pv_eq, Part.pv_eq]
      refine AW.ret ?_
      cases h
      show finish _ _ _ _ _ = _
      first | rfl | (simp [finish, resOf, renArgs, toPV, selObjs, sl])

set_option maxHeartbeats 4000000 in
theorem g_F47x1 {O : Orc} (hS : Sound env O) (hpf : O.pf = pfn) (c_F12x2 : C_F12x2 O) (c_L_IndexByte : C_L_IndexByte O) (c_F15 : C_F15 O) (x1 : Str) (x2 : Int) (x3 : Int) (x4 : Int) (x5 : Int) (l6 : List Token) (l7 : List Str) (r8 : Bool) (h : F47x1 x1 x2 x3 x4 x5 l6 l7 = some r8) : Good env 47 [.ref 0 0] [.var [as_ x1, ai x2, .vec 1 l6.length, .vec 2 l7.length, ai x3, ai x4, ai x5], .row 32 4 (List.map Token.pv l6) true, .row 9 1 (List.map PV.str l7) true] [ab r8] [.var [as_ x1, ai x2, .vec 1 l6.length, .vec 2 l7.length, ai x3, ai x4, ai x5], .row 32 4 (List.map Token.pv l6) true, .row 9 1 (List.map PV.str l7) true] := by
  have pf_12 : O.pf 12 = false := by rw [hpf]; rfl
  have pf_13 : O.pf 13 = true := by rw [hpf]; rfl
  have pf_15 : O.pf 15 = true := by rw [hpf]; rfl
  refine Good.start (fn := Tryz.f47) (N := 19) fn_47 rfl rfl (by simp) [] _ rfl rfl ?_
  rw [F47x1] at h
  refine AW.seq ?_
  refine AW.reg hS [(0, .ref 0 0)] [.var [as_ x1, ai x2, .vec 1 l6.length, .vec 2 l7.length, ai x3, ai x4, ai x5], .row 32 4 (List.map Token.pv l6) true, .row 9 1 (List.map PV.str l7) true] ?_ ?_
  · simp -implicitDefEqProofs only [RUNS, qindex, Nat.reduceAdd, Nat.reduceLeDiff, Nat.reduceSub, reduceIte, Nat.reduceEqDiff, Nat.reduceLT, reduceCtorEq, Nat.reduceMul, Nat.reduceBEq, Int.reduceEq, if_true, if_false, eq_self, ne_eq, env_bT, Token.pv_eq, Part.pv_eq]
  refine AW.seq ?_
  replace h := Option.bind_eq_some_iff.1 h; obtain ⟨r9, q10, h⟩ := h
  have f11 := c_F12x2 x1 x2 x3 x4 x5 l6 l7 r9 q10
  try dsimp only at f11
  have e12 : ecall O [.var [as_ x1, ai x2, .vec 1 l6.length, .vec 2 l7.length, ai x3, ai x4, ai x5], .row 32 4 (List.map Token.pv l6) true, .row 9 1 (List.map PV.str l7) true] 12 [.ref 0 0] = some (retAV [as_ r9], [.var [as_ x1, ai x2, .vec 1 l6.length, .vec 2 l7.length, ai x3, ai x4, ai x5], .row 32 4 (List.map Token.pv l6) true, .row 9 1 (List.map PV.str l7) true]) := ecall_eq rfl rfl rfl f11 rfl rfl rfl
  refine AW.reg hS [(3, as_ r9)] [.var [as_ x1, ai x2, .vec 1 l6.length, .vec 2 l7.length, ai x3, ai x4, ai x5], .row 32 4 (List.map Token.pv l6) true, .row 9 1 (List.map PV.str l7) true] ?_ ?_
  · simp -implicitDefEqProofs only [RUNS, qindex, Nat.reduceAdd, Nat.reduceLeDiff, Nat.reduceSub, reduceIte, Nat.reduceEqDiff, Nat.reduceLT, reduceCtorEq, Nat.reduceMul, Nat.reduceBEq, Int.reduceEq, if_true, if_false, eq_self, ne_eq, env_bT, T_34, Token.pv_eq, Part.pv_eq, pf_12, e12]
  refine AW.seq ?_
  replace h := Option.bind_eq_some_iff.1 h; obtain ⟨c13, q14, h⟩ := h
  have f15 := sidx_g (guardO_t q14)
  replace h := Option.bind_eq_some_iff.1 h; obtain ⟨n16, q17, h⟩ := h
  have f18 := fun hg => c_L_IndexByte [32, 9, 10, 59, 38, 124, 40, 41, 123, 125, 60, 62, 61, 94, 96, 36, 39] c13 n16 (guardO_t q17 hg)
  try dsimp only at f18
  try simp only [List.map_cons, List.map_nil, Token.pv_eq, Part.pv_eq] at f18
  replace h := Option.bind_eq_some_iff.1 h; obtain ⟨r19, q20, h⟩ := h
  have f21 := fun hg => c_F15 r9 [92, 10] r19 (guardO_t q20 hg)
  try dsimp only at f21
  try simp only [List.map_cons, List.map_nil, Token.pv_eq, Part.pv_eq] at f21
  refine AW.reg hS [(2, ab ((!decide (r9 = []) && decide (n16 < 0)) && !r19))] [.var [as_ x1, ai x2, .vec 1 l6.length, .vec 2 l7.length, ai x3, ai x4, ai x5], .row 32 4 (List.map Token.pv l6) true, .row 9 1 (List.map PV.str l7) true] ?_ ?_
  · clear h
    (simp -implicitDefEqProofs only [RUNS, qindex, Nat.reduceAdd, Nat.reduceLeDiff, Nat.reduceSub, reduceIte, Nat.reduceEqDiff, Nat.reduceLT, reduceCtorEq, Nat.reduceMul, Nat.reduceBEq, Int.reduceEq, if_true, if_false, eq_self, ne_eq, env_bT, T_3, T_5, T_9, Token.pv_eq, Part.pv_eq, eqT_9, f15.1, f15.2.1, f15.2.2, pf_13, f18, eqT_3, pf_15, f21]); repeat' (split <;> rename_i hb <;> (try simp only [HBS, ge_iff_le, gt_iff_lt] at hb) <;> simp -implicitDefEqProofs only [RUNS, qindex, Nat.reduceAdd, Nat.reduceLeDiff, Nat.reduceSub, reduceIte, Nat.reduceEqDiff, Nat.reduceLT, reduceCtorEq, Nat.reduceMul, Nat.reduceBEq, Int.reduceEq, if_true, if_false, eq_self, ne_eq, env_bT, T_3, T_5, T_9, Token.pv_eq, Part.pv_eq, eqT_9, f15.1, f15.2.1, f15.2.2, pf_13, f18, eqT_3, pf_15, f21, *, decide_true, decide_false, Decidable.not_not, not_false_eq_true, not_true_eq_false])
    all_goals (first | (simp only [BOOLS]; done) | (simp [*]; done) | ((try simp only [CLOS, beq_iff_eq, bne_iff_ne, ne_eq] at *) <;> omega) | (simp_all; done) | (simp_all <;> omega))
  refine AW.ret ?_
  cases h
  show finish _ _ _ _ _ = _
  first | rfl | (simp [finish, resOf, renArgs, toPV, selObjs, sl])

set_option maxHeartbeats 4000000 in
theorem g_F49x1 {O : Orc} (hS : Sound env O) (hpf : O.pf = pfn) (c_F12x2 : C_F12x2 O) (c_L_IndexByte : C_L_IndexByte O) (c_F26x2 : C_F26x2 O) (c_L_WriteString : C_L_WriteString O) (c_F15 : C_F15 O) (c_L_String : C_L_String O) (c_L_WriteByte : C_L_WriteByte O) (x1 : Str) (x2 : Int) (x3 : Int) (x4 : Int) (x5 : Int) (l6 : List Token) (l7 : List Str) (r8 : Str) (r9 : Bool) (x10 : Int) (x11 : Int) (x12 : Int) (h : F49x1 x1 x2 x3 x4 x5 l6 l7 = some (r8, r9, x10, x11, x12)) : Good env 49 [.ref 0 0] [.var [as_ x1, ai x2, .vec 1 l6.length, .vec 2 l7.length, ai x3, ai x4, ai x5], .row 32 4 (List.map Token.pv l6) true, .row 9 1 (List.map PV.str l7) true] [as_ r8, ab r9] [.var [as_ x1, ai x10, .vec 1 l6.length, .vec 2 l7.length, ai x3, ai x11, ai x12], .row 32 4 (List.map Token.pv l6) true, .row 9 1 (List.map PV.str l7) true] := by
  have pf_12 : O.pf 12 = false := by rw [hpf]; rfl
  have pf_13 : O.pf 13 = true := by rw [hpf]; rfl
  have pf_15 : O.pf 15 = true := by rw [hpf]; rfl
  have pf_26 : O.pf 26 = false := by rw [hpf]; rfl
  have pf_43 : O.pf 43 = false := by rw [hpf]; rfl
  have pf_44 : O.pf 44 = false := by rw [hpf]; rfl
  have pf_48 : O.pf 48 = false := by rw [hpf]; rfl
  refine Good.start (fn := Tryz.f49) (N := 64) fn_49 rfl rfl (by simp) [] _ rfl rfl ?_
  rw [F49x1] at h
  refine AW.seq ?_
  refine AW.reg hS [(0, .ref 0 0)] [.var [as_ x1, ai x2, .vec 1 l6.length, .vec 2 l7.length, ai x3, ai x4, ai x5], .row 32 4 (List.map Token.pv l6) true, .row 9 1 (List.map PV.str l7) true] ?_ ?_
  · simp -implicitDefEqProofs only [RUNS, qindex, Nat.reduceAdd, Nat.reduceLeDiff, Nat.reduceSub, reduceIte, Nat.reduceEqDiff, Nat.reduceLT, reduceCtorEq, Nat.reduceMul, Nat.reduceBEq, Int.reduceEq, if_true, if_false, eq_self, ne_eq, env_bT, Token.pv_eq, Part.pv_eq]
  refine AW.seq ?_
  refine AW.reg hS [(0, .ref 0 0), (4, ai x2)] [.var [as_ x1, ai x2, .vec 1 l6.length, .vec 2 l7.length, ai x3, ai x4, ai x5], .row 32 4 (List.map Token.pv l6) true, .row 9 1 (List.map PV.str l7) true] ?_ ?_
  · simp -implicitDefEqProofs only [RUNS, qindex, Nat.reduceAdd, Nat.reduceLeDiff, Nat.reduceSub, reduceIte, Nat.reduceEqDiff, Nat.reduceLT, reduceCtorEq, Nat.reduceMul, Nat.reduceBEq, Int.reduceEq, if_true, if_false, eq_self, ne_eq, env_bT, T_3, T_37, Token.pv_eq, Part.pv_eq]
  refine AW.seq ?_
  refine AW.reg hS [(0, .ref 0 0), (4, ai x2)] [.var [as_ x1, ai (IntKind.wrap .i64 (x2 + 1)), .vec 1 l6.length, .vec 2 l7.length, ai x3, ai x4, ai x5], .row 32 4 (List.map Token.pv l6) true, .row 9 1 (List.map PV.str l7) true] ?_ ?_
  · simp -implicitDefEqProofs only [RUNS, qindex, Nat.reduceAdd, Nat.reduceLeDiff, Nat.reduceSub, reduceIte, Nat.reduceEqDiff, Nat.reduceLT, reduceCtorEq, Nat.reduceMul, Nat.reduceBEq, Int.reduceEq, if_true, if_false, eq_self, ne_eq, env_bT, T_3, T_37, Token.pv_eq, Part.pv_eq, eqT_3]
  refine AW.seq ?_
  refine AW.reg hS [(0, .ref 0 0), (4, ai x2), (5, .ref 3 0)] [.var [as_ x1, ai (IntKind.wrap .i64 (x2 + 1)), .vec 1 l6.length, .vec 2 l7.length, ai x3, ai x4, ai x5], .row 32 4 (List.map Token.pv l6) true, .row 9 1 (List.map PV.str l7) true, .bld []] ?_ ?_
  · simp -implicitDefEqProofs only [RUNS, qindex, Nat.reduceAdd, Nat.reduceLeDiff, Nat.reduceSub, reduceIte, Nat.reduceEqDiff, Nat.reduceLT, reduceCtorEq, Nat.reduceMul, Nat.reduceBEq, Int.reduceEq, if_true, if_false, eq_self, ne_eq, env_bT, T_68, Token.pv_eq, Part.pv_eq]
  refine AW.block ?_
  refine AW.weak (Weak.slots (L := [(0, .ref 0 0), (4, ai x2), (5, .ref 3 0)]) ⟨rfl, rfl, rfl, trivial⟩) ?_
  refine AW.loopI (α := Nat × Int × Str) (fun (_, x13, b14) => ⟨sl [(0, .ref 0 0), (4, ai x2), (5, .ref 3 0)], 64, [.var [as_ x1, ai x13, .vec 1 l6.length, .vec 2 l7.length, ai x3, ai x4, ai x5], .row 32 4 (List.map Token.pv l6) true, .row 9 1 (List.map PV.str l7) true, .bld b14]⟩) (fun x => iter (F49x1_b1 x1 x3 x4 x5 l6 l7 x2) x.1 x.2 = some (r8, r9, x10, x11, x12)) (fun x => x.1) (BIG, (IntKind.wrap .i64 (x2 + 1), [])) h ?_
  clear h
  intro ⟨n56, x13, b14⟩ h
  replace h := iter_some h; obtain ⟨m17, rfl, h⟩ := h
  rw [F49x1_b1] at h
  try dsimp only at h
  show AW _ _ _ _ ⟨sl [(0, .ref 0 0), (4, ai x2), (5, .ref 3 0)], 64, [.var [as_ x1, ai x13, .vec 1 l6.length, .vec 2 l7.length, ai x3, ai x4, ai x5], .row 32 4 (List.map Token.pv l6) true, .row 9 1 (List.map PV.str l7) true, .bld b14]⟩
  refine AW.block ?_
  refine AW.seq ?_
  replace h := Option.bind_eq_some_iff.1 h; obtain ⟨r18, q19, h⟩ := h
  have f20 := c_F12x2 x1 x13 x3 x4 x5 l6 l7 r18 q19
  try dsimp only at f20
  have e21 : ecall O [.var [as_ x1, ai x13, .vec 1 l6.length, .vec 2 l7.length, ai x3, ai x4, ai x5], .row 32 4 (List.map Token.pv l6) true, .row 9 1 (List.map PV.str l7) true, .bld b14] 12 [.ref 0 0] = some (retAV [as_ r18], [.var [as_ x1, ai x13, .vec 1 l6.length, .vec 2 l7.length, ai x3, ai x4, ai x5], .row 32 4 (List.map Token.pv l6) true, .row 9 1 (List.map PV.str l7) true, .bld b14]) := ecall_eq rfl rfl rfl f20 rfl rfl rfl
  replace h := Option.bind_eq_some_iff.1 h; obtain ⟨n22, q23, h⟩ := h
  have f24 := c_L_IndexByte r18 39 n22 q23
  try dsimp only at f24
  refine AW.reg hS [(0, .ref 0 0), (4, ai x2), (5, .ref 3 0), (6, ai n22)] [.var [as_ x1, ai x13, .vec 1 l6.length, .vec 2 l7.length, ai x3, ai x4, ai x5], .row 32 4 (List.map Token.pv l6) true, .row 9 1 (List.map PV.str l7) true, .bld b14] ?_ ?_
  · simp -implicitDefEqProofs only [RUNS, qindex, Nat.reduceAdd, Nat.reduceLeDiff, Nat.reduceSub, reduceIte, Nat.reduceEqDiff, Nat.reduceLT, reduceCtorEq, Nat.reduceMul, Nat.reduceBEq, Int.reduceEq, if_true, if_false, eq_self, ne_eq, env_bT, T_5, T_9, T_34, Token.pv_eq, Part.pv_eq, pf_12, e21, pf_13, f24]
  refine AW.seq ?_
  refine AW.seq ?_
  refine AW.reg hS [(0, .ref 0 0), (4, ai x2), (5, .ref 3 0), (6, ai n22), (22, ab (decide (n22 < 0)))] [.var [as_ x1, ai x13, .vec 1 l6.length, .vec 2 l7.length, ai x3, ai x4, ai x5], .row 32 4 (List.map Token.pv l6) true, .row 9 1 (List.map PV.str l7) true, .bld b14] ?_ ?_
  · simp -implicitDefEqProofs only [RUNS, qindex, Nat.reduceAdd, Nat.reduceLeDiff, Nat.reduceSub, reduceIte, Nat.reduceEqDiff, Nat.reduceLT, reduceCtorEq, Nat.reduceMul, Nat.reduceBEq, Int.reduceEq, if_true, if_false, eq_self, ne_eq, env_bT, T_3, Token.pv_eq, Part.pv_eq, eqT_3]
  refine AW.cond (b := decide (n22 < 0)) rfl (fun hb25 => ?_) (fun hb25 => ?_)
  · replace h := bif_t hb25 h
    refine AW.seq ?_
    replace h := Option.bind_eq_some_iff.1 h; obtain ⟨⟨r26, x27, x28⟩, q29, h⟩ := h
    dsimp only at h
    have f30 := c_F26x2 x2 48 x1 x13 x3 x4 x5 l6 l7 r26 x27 x28 q29
    try dsimp only at f30
    have e31 : ecall O [.var [as_ x1, ai x13, .vec 1 l6.length, .vec 2 l7.length, ai x3, ai x4, ai x5], .row 32 4 (List.map Token.pv l6) true, .row 9 1 (List.map PV.str l7) true, .bld b14] 26 [.ref 0 0, ai x2, ai 48] = some (retAV [ab r26], [.var [as_ x1, ai x13, .vec 1 l6.length, .vec 2 l7.length, ai x3, ai x27, ai x28], .row 32 4 (List.map Token.pv l6) true, .row 9 1 (List.map PV.str l7) true, .bld b14]) := ecall_eq rfl rfl rfl f30 rfl rfl rfl
    refine AW.reg hS [(2, as_ []), (3, ab r26)] [.var [as_ x1, ai x13, .vec 1 l6.length, .vec 2 l7.length, ai x3, ai x27, ai x28], .row 32 4 (List.map Token.pv l6) true, .row 9 1 (List.map PV.str l7) true, .bld b14] ?_ ?_
    · simp -implicitDefEqProofs only [RUNS, qindex, Nat.reduceAdd, Nat.reduceLeDiff, Nat.reduceSub, reduceIte, Nat.reduceEqDiff, Nat.reduceLT, reduceCtorEq, Nat.reduceMul, Nat.reduceBEq, Int.reduceEq, if_true, if_false, eq_self, ne_eq, env_bT, T_3, T_24, T_34, Token.pv_eq, Part.pv_eq, pf_26, e31]
    refine AW.ret ?_
    cases h
    show finish _ _ _ _ _ = _
    first | rfl | (simp [finish, resOf, renArgs, toPV, selObjs, sl])
  · replace h := bif_f hb25 h
    refine AW.skip ?_
    refine AW.seq ?_
    replace h := Option.bind_eq_some_iff.1 h; obtain ⟨t32, q33, h⟩ := h
    have f34 := sslice_f q33
    have f34e := f34.2.2.2.2
    try simp only [Int.toNat_natCast, Int.toNat_zero, List.drop_zero] at f34e
    have f34l := f34.2.2.1
    try simp only [Int.toNat_natCast, Int.toNat_zero] at f34l
    replace h := Option.bind_eq_some_iff.1 h; obtain ⟨⟨n35, c36⟩, q37, h⟩ := h
    dsimp only at h
    have f38 := c_L_WriteString b14 t32 n35 c36 q37
    try dsimp only at f38
    have e39 : ecall O [.var [as_ x1, ai x13, .vec 1 l6.length, .vec 2 l7.length, ai x3, ai x4, ai x5], .row 32 4 (List.map Token.pv l6) true, .row 9 1 (List.map PV.str l7) true, .bld b14] 43 [.ref 3 0, as_ t32] = some (retAV [ai n35, .pv (.nil)], [.var [as_ x1, ai x13, .vec 1 l6.length, .vec 2 l7.length, ai x3, ai x4, ai x5], .row 32 4 (List.map Token.pv l6) true, .row 9 1 (List.map PV.str l7) true, .bld c36]) := ecall_eq rfl rfl rfl f38 rfl rfl rfl
    refine AW.dreg mixed hS (hpf ▸ (by kernel_rfl : orderOK pfn _ = true)) [(0, .ref 0 0), (4, ai x2), (5, .ref 3 0), (6, ai n22)] [.var [as_ x1, ai x13, .vec 1 l6.length, .vec 2 l7.length, ai x3, ai x4, ai x5], .row 32 4 (List.map Token.pv l6) true, .row 9 1 (List.map PV.str l7) true, .bld c36] ?_ ?_
    · simp -implicitDefEqProofs only [RUNS, qindex, Nat.reduceAdd, Nat.reduceLeDiff, Nat.reduceSub, reduceIte, Nat.reduceEqDiff, Nat.reduceLT, reduceCtorEq, Nat.reduceMul, Nat.reduceBEq, Int.reduceEq, if_true, if_false, eq_self, ne_eq, env_bT, T_3, T_9, T_37, T_68, Token.pv_eq, Part.pv_eq, eqT_3, f34.1, f34.2.1, f34l, f34.2.2.2.1, f34e, Int.toNat_natCast, Int.toNat_zero, pf_43, e39]
    refine AW.seq ?_
    refine AW.reg hS [(0, .ref 0 0), (4, ai x2), (5, .ref 3 0)] [.var [as_ x1, ai (IntKind.wrap .i64 (x13 + (IntKind.wrap .i64 (n22 + 1)))), .vec 1 l6.length, .vec 2 l7.length, ai x3, ai x4, ai x5], .row 32 4 (List.map Token.pv l6) true, .row 9 1 (List.map PV.str l7) true, .bld c36] ?_ ?_
    · simp -implicitDefEqProofs only [RUNS, qindex, Nat.reduceAdd, Nat.reduceLeDiff, Nat.reduceSub, reduceIte, Nat.reduceEqDiff, Nat.reduceLT, reduceCtorEq, Nat.reduceMul, Nat.reduceBEq, Int.reduceEq, if_true, if_false, eq_self, ne_eq, env_bT, T_3, T_37, Token.pv_eq, Part.pv_eq, eqT_3]
    refine AW.seq ?_
    refine AW.seq ?_
    replace h := Option.bind_eq_some_iff.1 h; obtain ⟨r40, q41, h⟩ := h
    have f42 := c_F12x2 x1 (IntKind.wrap .i64 (x13 + (IntKind.wrap .i64 (n22 + 1)))) x3 x4 x5 l6 l7 r40 q41
    try dsimp only at f42
    have e43 : ecall O [.var [as_ x1, ai (IntKind.wrap .i64 (x13 + (IntKind.wrap .i64 (n22 + 1)))), .vec 1 l6.length, .vec 2 l7.length, ai x3, ai x4, ai x5], .row 32 4 (List.map Token.pv l6) true, .row 9 1 (List.map PV.str l7) true, .bld c36] 12 [.ref 0 0] = some (retAV [as_ r40], [.var [as_ x1, ai (IntKind.wrap .i64 (x13 + (IntKind.wrap .i64 (n22 + 1)))), .vec 1 l6.length, .vec 2 l7.length, ai x3, ai x4, ai x5], .row 32 4 (List.map Token.pv l6) true, .row 9 1 (List.map PV.str l7) true, .bld c36]) := ecall_eq rfl rfl rfl f42 rfl rfl rfl
    replace h := Option.bind_eq_some_iff.1 h; obtain ⟨r44, q45, h⟩ := h
    have f46 := c_F15 r40 [39] r44 q45
    try dsimp only at f46
    try simp only [List.map_cons, List.map_nil, Token.pv_eq, Part.pv_eq] at f46
    refine AW.reg hS [(0, .ref 0 0), (4, ai x2), (5, .ref 3 0), (54, ab (!r44))] [.var [as_ x1, ai (IntKind.wrap .i64 (x13 + (IntKind.wrap .i64 (n22 + 1)))), .vec 1 l6.length, .vec 2 l7.length, ai x3, ai x4, ai x5], .row 32 4 (List.map Token.pv l6) true, .row 9 1 (List.map PV.str l7) true, .bld c36] ?_ ?_
    · simp -implicitDefEqProofs only [RUNS, qindex, Nat.reduceAdd, Nat.reduceLeDiff, Nat.reduceSub, reduceIte, Nat.reduceEqDiff, Nat.reduceLT, reduceCtorEq, Nat.reduceMul, Nat.reduceBEq, Int.reduceEq, if_true, if_false, eq_self, ne_eq, env_bT, T_9, T_34, Token.pv_eq, Part.pv_eq, pf_12, e43, pf_15, f46]
    refine AW.cond (b := !r44) rfl (fun hb47 => ?_) (fun hb47 => ?_)
    · replace h := bif_t hb47 h
      refine AW.seq ?_
      replace h := Option.bind_eq_some_iff.1 h; obtain ⟨s48, q49, h⟩ := h
      have f50 := c_L_String c36 s48 q49
      try dsimp only at f50
      have e51 : ecall O [.var [as_ x1, ai (IntKind.wrap .i64 (x13 + (IntKind.wrap .i64 (n22 + 1)))), .vec 1 l6.length, .vec 2 l7.length, ai x3, ai x4, ai x5], .row 32 4 (List.map Token.pv l6) true, .row 9 1 (List.map PV.str l7) true, .bld c36] 44 [.ref 3 0] = some (retAV [as_ s48], [.var [as_ x1, ai (IntKind.wrap .i64 (x13 + (IntKind.wrap .i64 (n22 + 1)))), .vec 1 l6.length, .vec 2 l7.length, ai x3, ai x4, ai x5], .row 32 4 (List.map Token.pv l6) true, .row 9 1 (List.map PV.str l7) true, .gone]) := ecall_eq rfl rfl rfl f50 rfl rfl rfl
      refine AW.reg hS [(2, as_ s48), (3, ab true)] [.var [as_ x1, ai (IntKind.wrap .i64 (x13 + (IntKind.wrap .i64 (n22 + 1)))), .vec 1 l6.length, .vec 2 l7.length, ai x3, ai x4, ai x5], .row 32 4 (List.map Token.pv l6) true, .row 9 1 (List.map PV.str l7) true, .gone] ?_ ?_
      · simp -implicitDefEqProofs only [RUNS, qindex, Nat.reduceAdd, Nat.reduceLeDiff, Nat.reduceSub, reduceIte, Nat.reduceEqDiff, Nat.reduceLT, reduceCtorEq, Nat.reduceMul, Nat.reduceBEq, Int.reduceEq, if_true, if_false, eq_self, ne_eq, env_bT, T_68, Token.pv_eq, Part.pv_eq, pf_44, e51]
      refine AW.ret ?_
      cases h
      show finish _ _ _ _ _ = _
      first | rfl | (simp [finish, resOf, renArgs, toPV, selObjs, sl])
    · replace h := bif_f hb47 h
      refine AW.skip ?_
      refine AW.seq ?_
      replace h := Option.bind_eq_some_iff.1 h; obtain ⟨d52, q53, h⟩ := h
      have f54 := c_L_WriteByte c36 39 d52 q53
      try dsimp only at f54
      have e55 : ecall O [.var [as_ x1, ai (IntKind.wrap .i64 (x13 + (IntKind.wrap .i64 (n22 + 1)))), .vec 1 l6.length, .vec 2 l7.length, ai x3, ai x4, ai x5], .row 32 4 (List.map Token.pv l6) true, .row 9 1 (List.map PV.str l7) true, .bld c36] 48 [.ref 3 0, .pv (.int .u8 39)] = some (retAV [.pv (.nil)], [.var [as_ x1, ai (IntKind.wrap .i64 (x13 + (IntKind.wrap .i64 (n22 + 1)))), .vec 1 l6.length, .vec 2 l7.length, ai x3, ai x4, ai x5], .row 32 4 (List.map Token.pv l6) true, .row 9 1 (List.map PV.str l7) true, .bld d52]) := ecall_eq rfl rfl rfl f54 rfl rfl rfl
      refine AW.reg hS [(0, .ref 0 0), (4, ai x2), (5, .ref 3 0)] [.var [as_ x1, ai (IntKind.wrap .i64 (x13 + (IntKind.wrap .i64 (n22 + 1)))), .vec 1 l6.length, .vec 2 l7.length, ai x3, ai x4, ai x5], .row 32 4 (List.map Token.pv l6) true, .row 9 1 (List.map PV.str l7) true, .bld d52] ?_ ?_
      · simp -implicitDefEqProofs only [RUNS, qindex, Nat.reduceAdd, Nat.reduceLeDiff, Nat.reduceSub, reduceIte, Nat.reduceEqDiff, Nat.reduceLT, reduceCtorEq, Nat.reduceMul, Nat.reduceBEq, Int.reduceEq, if_true, if_false, eq_self, ne_eq, env_bT, T_5, T_68, Token.pv_eq, Part.pv_eq, pf_48, e55]
      refine AW.reg hS [(0, .ref 0 0), (4, ai x2), (5, .ref 3 0)] [.var [as_ x1, ai (IntKind.wrap .i64 ((IntKind.wrap .i64 (x13 + (IntKind.wrap .i64 (n22 + 1)))) + 1)), .vec 1 l6.length, .vec 2 l7.length, ai x3, ai x4, ai x5], .row 32 4 (List.map Token.pv l6) true, .row 9 1 (List.map PV.str l7) true, .bld d52] ?_ ?_
      · simp -implicitDefEqProofs only [RUNS, qindex, Nat.reduceAdd, Nat.reduceLeDiff, Nat.reduceSub, reduceIte, Nat.reduceEqDiff, Nat.reduceLT, reduceCtorEq, Nat.reduceMul, Nat.reduceBEq, Int.reduceEq, if_true, if_false, eq_self, ne_eq, env_bT, T_3, T_37, Token.pv_eq, Part.pv_eq, eqT_3]
      exact ⟨(m17, (IntKind.wrap .i64 ((IntKind.wrap .i64 (x13 + (IntKind.wrap .i64 (n22 + 1)))) + 1), d52)), h, (Weak.norm (m := 4) (Nat.le_of_ble_eq_true rfl) ⟨rfl, rfl, rfl, trivial⟩ rfl rfl rfl), Nat.lt_succ_self _⟩

set_option maxHeartbeats 4000000 in
theorem g_F28x1 {O : Orc} (hS : Sound env O) (hpf : O.pf = pfn) (c_F47x1 : C_F47x1 O) (c_L_WriteByte : C_L_WriteByte O) (c_F12x2 : C_F12x2 O) (c_F15 : C_F15 O) (c_F49x1 : C_F49x1 O) (c_L_WriteString : C_L_WriteString O) (c_L_Repeat : C_L_Repeat O) (c_L_String : C_L_String O) (x1 : Str) (x2 : Int) (x3 : Int) (x4 : Int) (x5 : Int) (l6 : List Token) (l7 : List Str) (r8 : Str) (r9 : Str) (r10 : Bool) (x11 : Int) (x12 : Int) (x13 : Int) (h : F28x1 x1 x2 x3 x4 x5 l6 l7 = some (r8, r9, r10, x11, x12, x13)) : Good env 28 [.ref 0 0] [.var [as_ x1, ai x2, .vec 1 l6.length, .vec 2 l7.length, ai x3, ai x4, ai x5], .row 32 4 (List.map Token.pv l6) true, .row 9 1 (List.map PV.str l7) true] [as_ r8, as_ r9, ab r10] [.var [as_ x1, ai x11, .vec 1 l6.length, .vec 2 l7.length, ai x3, ai x12, ai x13], .row 32 4 (List.map Token.pv l6) true, .row 9 1 (List.map PV.str l7) true] := by
  have pf_12 : O.pf 12 = false := by rw [hpf]; rfl
  have pf_15 : O.pf 15 = true := by rw [hpf]; rfl
  have pf_43 : O.pf 43 = false := by rw [hpf]; rfl
  have pf_44 : O.pf 44 = false := by rw [hpf]; rfl
  have pf_47 : O.pf 47 = false := by rw [hpf]; rfl
  have pf_48 : O.pf 48 = false := by rw [hpf]; rfl
  have pf_49 : O.pf 49 = false := by rw [hpf]; rfl
  have pf_50 : O.pf 50 = true := by rw [hpf]; rfl
  refine Good.start (fn := Tryz.f28) (N := 49) fn_28 rfl rfl (by simp) [] _ rfl rfl ?_
  rw [F28x1] at h
  refine AW.seq ?_
  refine AW.reg hS [(0, .ref 0 0)] [.var [as_ x1, ai x2, .vec 1 l6.length, .vec 2 l7.length, ai x3, ai x4, ai x5], .row 32 4 (List.map Token.pv l6) true, .row 9 1 (List.map PV.str l7) true] ?_ ?_
  · simp -implicitDefEqProofs only [RUNS, qindex, Nat.reduceAdd, Nat.reduceLeDiff, Nat.reduceSub, reduceIte, Nat.reduceEqDiff, Nat.reduceLT, reduceCtorEq, Nat.reduceMul, Nat.reduceBEq, Int.reduceEq, if_true, if_false, eq_self, ne_eq, env_bT, Token.pv_eq, Part.pv_eq]
  refine AW.seq ?_
  refine AW.reg hS [(0, .ref 0 0), (5, .ref 3 0), (6, .ref 4 0)] [.var [as_ x1, ai x2, .vec 1 l6.length, .vec 2 l7.length, ai x3, ai x4, ai x5], .row 32 4 (List.map Token.pv l6) true, .row 9 1 (List.map PV.str l7) true, .bld [], .bld []] ?_ ?_
  · simp -implicitDefEqProofs only [RUNS, qindex, Nat.reduceAdd, Nat.reduceLeDiff, Nat.reduceSub, reduceIte, Nat.reduceEqDiff, Nat.reduceLT, reduceCtorEq, Nat.reduceMul, Nat.reduceBEq, Int.reduceEq, if_true, if_false, eq_self, ne_eq, env_bT, T_68, Token.pv_eq, Part.pv_eq]
  refine AW.block ?_
  refine AW.weak (Weak.slots (L := [(0, .ref 0 0), (5, .ref 3 0), (6, .ref 4 0)]) ⟨rfl, rfl, rfl, trivial⟩) ?_
  refine AW.loopI (α := Nat × Int × Int × Int × Str × Str) (fun (_, x14, x15, x16, b17, b18) => ⟨sl [(0, .ref 0 0), (5, .ref 3 0), (6, .ref 4 0)], 49, [.var [as_ x1, ai x14, .vec 1 l6.length, .vec 2 l7.length, ai x3, ai x15, ai x16], .row 32 4 (List.map Token.pv l6) true, .row 9 1 (List.map PV.str l7) true, .bld b17, .bld b18]⟩) (fun x => iter (F28x1_b1 x1 x3 l6 l7) x.1 x.2 = some (r8, r9, r10, x11, x12, x13)) (fun x => x.1) (BIG, (x2, x4, x5, [], [])) h ?_
  clear h
  intro ⟨n76, x14, x15, x16, b17, b18⟩ h
  replace h := iter_some h; obtain ⟨m21, rfl, h⟩ := h
  rw [F28x1_b1] at h
  try dsimp only at h
  show AW _ _ _ _ ⟨sl [(0, .ref 0 0), (5, .ref 3 0), (6, .ref 4 0)], 49, [.var [as_ x1, ai x14, .vec 1 l6.length, .vec 2 l7.length, ai x3, ai x15, ai x16], .row 32 4 (List.map Token.pv l6) true, .row 9 1 (List.map PV.str l7) true, .bld b17, .bld b18]⟩
  refine AW.block ?_
  refine AW.block ?_
  refine AW.seq ?_
  replace h := Option.bind_eq_some_iff.1 h; obtain ⟨r22, q23, h⟩ := h
  have f24 := c_F47x1 x1 x14 x3 x15 x16 l6 l7 r22 q23
  try dsimp only at f24
  have e25 : ecall O [.var [as_ x1, ai x14, .vec 1 l6.length, .vec 2 l7.length, ai x3, ai x15, ai x16], .row 32 4 (List.map Token.pv l6) true, .row 9 1 (List.map PV.str l7) true, .bld b17, .bld b18] 47 [.ref 0 0] = some (retAV [ab r22], [.var [as_ x1, ai x14, .vec 1 l6.length, .vec 2 l7.length, ai x3, ai x15, ai x16], .row 32 4 (List.map Token.pv l6) true, .row 9 1 (List.map PV.str l7) true, .bld b17, .bld b18]) := ecall_eq rfl rfl rfl f24 rfl rfl rfl
  refine AW.reg hS [(0, .ref 0 0), (5, .ref 3 0), (6, .ref 4 0), (11, ab r22)] [.var [as_ x1, ai x14, .vec 1 l6.length, .vec 2 l7.length, ai x3, ai x15, ai x16], .row 32 4 (List.map Token.pv l6) true, .row 9 1 (List.map PV.str l7) true, .bld b17, .bld b18] ?_ ?_
  · simp -implicitDefEqProofs only [RUNS, qindex, Nat.reduceAdd, Nat.reduceLeDiff, Nat.reduceSub, reduceIte, Nat.reduceEqDiff, Nat.reduceLT, reduceCtorEq, Nat.reduceMul, Nat.reduceBEq, Int.reduceEq, if_true, if_false, eq_self, ne_eq, env_bT, T_34, Token.pv_eq, Part.pv_eq, pf_47, e25]
  refine AW.cond (b := r22) rfl (fun hb26 => ?_) (fun hb26 => ?_)
  · replace h := bif_t hb26 h
    refine AW.seq ?_
    replace h := Option.bind_eq_some_iff.1 h; obtain ⟨c27, q28, h⟩ := h
    have f29 := sidx_f q28
    replace h := Option.bind_eq_some_iff.1 h; obtain ⟨d30, q31, h⟩ := h
    have f32 := c_L_WriteByte b17 c27 d30 q31
    try dsimp only at f32
    have e33 : ecall O [.var [as_ x1, ai x14, .vec 1 l6.length, .vec 2 l7.length, ai x3, ai x15, ai x16], .row 32 4 (List.map Token.pv l6) true, .row 9 1 (List.map PV.str l7) true, .bld b17, .bld b18] 48 [.ref 3 0, .pv (.int .u8 c27)] = some (retAV [.pv (.nil)], [.var [as_ x1, ai x14, .vec 1 l6.length, .vec 2 l7.length, ai x3, ai x15, ai x16], .row 32 4 (List.map Token.pv l6) true, .row 9 1 (List.map PV.str l7) true, .bld d30, .bld b18]) := ecall_eq rfl rfl rfl f32 rfl rfl rfl
    refine AW.dreg mixed hS (hpf ▸ (by kernel_rfl : orderOK pfn _ = true)) [(0, .ref 0 0), (5, .ref 3 0), (6, .ref 4 0)] [.var [as_ x1, ai x14, .vec 1 l6.length, .vec 2 l7.length, ai x3, ai x15, ai x16], .row 32 4 (List.map Token.pv l6) true, .row 9 1 (List.map PV.str l7) true, .bld d30, .bld b18] ?_ ?_
    · simp -implicitDefEqProofs only [RUNS, qindex, Nat.reduceAdd, Nat.reduceLeDiff, Nat.reduceSub, reduceIte, Nat.reduceEqDiff, Nat.reduceLT, reduceCtorEq, Nat.reduceMul, Nat.reduceBEq, Int.reduceEq, if_true, if_false, eq_self, ne_eq, env_bT, T_3, T_5, T_9, T_37, T_68, Token.pv_eq, Part.pv_eq, f29.1, f29.2.1, f29.2.2, pf_48, e33]
    refine AW.seq ?_
    replace h := Option.bind_eq_some_iff.1 h; obtain ⟨d34, q35, h⟩ := h
    have f36 := c_L_WriteByte b18 48 d34 q35
    try dsimp only at f36
    have e37 : ecall O [.var [as_ x1, ai x14, .vec 1 l6.length, .vec 2 l7.length, ai x3, ai x15, ai x16], .row 32 4 (List.map Token.pv l6) true, .row 9 1 (List.map PV.str l7) true, .bld d30, .bld b18] 48 [.ref 4 0, .pv (.int .u8 48)] = some (retAV [.pv (.nil)], [.var [as_ x1, ai x14, .vec 1 l6.length, .vec 2 l7.length, ai x3, ai x15, ai x16], .row 32 4 (List.map Token.pv l6) true, .row 9 1 (List.map PV.str l7) true, .bld d30, .bld d34]) := ecall_eq rfl rfl rfl f36 rfl rfl rfl
    refine AW.reg hS [(0, .ref 0 0), (5, .ref 3 0), (6, .ref 4 0)] [.var [as_ x1, ai x14, .vec 1 l6.length, .vec 2 l7.length, ai x3, ai x15, ai x16], .row 32 4 (List.map Token.pv l6) true, .row 9 1 (List.map PV.str l7) true, .bld d30, .bld d34] ?_ ?_
    · simp -implicitDefEqProofs only [RUNS, qindex, Nat.reduceAdd, Nat.reduceLeDiff, Nat.reduceSub, reduceIte, Nat.reduceEqDiff, Nat.reduceLT, reduceCtorEq, Nat.reduceMul, Nat.reduceBEq, Int.reduceEq, if_true, if_false, eq_self, ne_eq, env_bT, T_5, T_68, Token.pv_eq, Part.pv_eq, pf_48, e37]
    refine AW.reg hS [(0, .ref 0 0), (5, .ref 3 0), (6, .ref 4 0)] [.var [as_ x1, ai (IntKind.wrap .i64 (x14 + 1)), .vec 1 l6.length, .vec 2 l7.length, ai x3, ai x15, ai x16], .row 32 4 (List.map Token.pv l6) true, .row 9 1 (List.map PV.str l7) true, .bld d30, .bld d34] ?_ ?_
    · simp -implicitDefEqProofs only [RUNS, qindex, Nat.reduceAdd, Nat.reduceLeDiff, Nat.reduceSub, reduceIte, Nat.reduceEqDiff, Nat.reduceLT, reduceCtorEq, Nat.reduceMul, Nat.reduceBEq, Int.reduceEq, if_true, if_false, eq_self, ne_eq, env_bT, T_3, T_37, Token.pv_eq, Part.pv_eq, eqT_3]
    exact ⟨(m21, (IntKind.wrap .i64 (x14 + 1), x15, x16, d30, d34)), h, (Weak.norm (m := 5) (Nat.le_of_ble_eq_true rfl) ⟨rfl, rfl, rfl, trivial⟩ rfl rfl rfl), Nat.lt_succ_self _⟩
  · replace h := bif_f hb26 h
    refine AW.seq ?_
    replace h := Option.bind_eq_some_iff.1 h; obtain ⟨r38, q39, h⟩ := h
    have f40 := c_F12x2 x1 x14 x3 x15 x16 l6 l7 r38 q39
    try dsimp only at f40
    have e41 : ecall O [.var [as_ x1, ai x14, .vec 1 l6.length, .vec 2 l7.length, ai x3, ai x15, ai x16], .row 32 4 (List.map Token.pv l6) true, .row 9 1 (List.map PV.str l7) true, .bld b17, .bld b18] 12 [.ref 0 0] = some (retAV [as_ r38], [.var [as_ x1, ai x14, .vec 1 l6.length, .vec 2 l7.length, ai x3, ai x15, ai x16], .row 32 4 (List.map Token.pv l6) true, .row 9 1 (List.map PV.str l7) true, .bld b17, .bld b18]) := ecall_eq rfl rfl rfl f40 rfl rfl rfl
    replace h := Option.bind_eq_some_iff.1 h; obtain ⟨r42, q43, h⟩ := h
    have f44 := c_F15 r38 [39] r42 q43
    try dsimp only at f44
    try simp only [List.map_cons, List.map_nil, Token.pv_eq, Part.pv_eq] at f44
    refine AW.reg hS [(0, .ref 0 0), (5, .ref 3 0), (6, .ref 4 0), (32, ab r42)] [.var [as_ x1, ai x14, .vec 1 l6.length, .vec 2 l7.length, ai x3, ai x15, ai x16], .row 32 4 (List.map Token.pv l6) true, .row 9 1 (List.map PV.str l7) true, .bld b17, .bld b18] ?_ ?_
    · simp -implicitDefEqProofs only [RUNS, qindex, Nat.reduceAdd, Nat.reduceLeDiff, Nat.reduceSub, reduceIte, Nat.reduceEqDiff, Nat.reduceLT, reduceCtorEq, Nat.reduceMul, Nat.reduceBEq, Int.reduceEq, if_true, if_false, eq_self, ne_eq, env_bT, T_9, T_34, Token.pv_eq, Part.pv_eq, pf_12, e41, pf_15, f44]
    refine AW.cond (b := r42) rfl (fun hb45 => ?_) (fun hb45 => ?_)
    · replace h := bif_t hb45 h
      refine AW.seq ?_
      replace h := Option.bind_eq_some_iff.1 h; obtain ⟨⟨r46, r47, x48, x49, x50⟩, q51, h⟩ := h
      dsimp only at h
      have f52 := c_F49x1 x1 x14 x3 x15 x16 l6 l7 r46 r47 x48 x49 x50 q51
      try dsimp only at f52
      have e53 : ecall O [.var [as_ x1, ai x14, .vec 1 l6.length, .vec 2 l7.length, ai x3, ai x15, ai x16], .row 32 4 (List.map Token.pv l6) true, .row 9 1 (List.map PV.str l7) true, .bld b17, .bld b18] 49 [.ref 0 0] = some (retAV [as_ r46, ab r47], [.var [as_ x1, ai x48, .vec 1 l6.length, .vec 2 l7.length, ai x3, ai x49, ai x50], .row 32 4 (List.map Token.pv l6) true, .row 9 1 (List.map PV.str l7) true, .bld b17, .bld b18]) := ecall_eq rfl rfl rfl f52 rfl rfl rfl
      refine AW.reg hS [(0, .ref 0 0), (5, .ref 3 0), (6, .ref 4 0), (7, as_ r46), (8, ab r47)] [.var [as_ x1, ai x48, .vec 1 l6.length, .vec 2 l7.length, ai x3, ai x49, ai x50], .row 32 4 (List.map Token.pv l6) true, .row 9 1 (List.map PV.str l7) true, .bld b17, .bld b18] ?_ ?_
      · simp -implicitDefEqProofs only [RUNS, qindex, Nat.reduceAdd, Nat.reduceLeDiff, Nat.reduceSub, reduceIte, Nat.reduceEqDiff, Nat.reduceLT, reduceCtorEq, Nat.reduceMul, Nat.reduceBEq, Int.reduceEq, if_true, if_false, eq_self, ne_eq, env_bT, T_34, Token.pv_eq, Part.pv_eq, pf_49, e53]
      refine AW.seq ?_
      refine AW.seq ?_
      refine AW.reg hS [(0, .ref 0 0), (5, .ref 3 0), (6, .ref 4 0), (7, as_ r46), (42, ab (!r47))] [.var [as_ x1, ai x48, .vec 1 l6.length, .vec 2 l7.length, ai x3, ai x49, ai x50], .row 32 4 (List.map Token.pv l6) true, .row 9 1 (List.map PV.str l7) true, .bld b17, .bld b18] ?_ ?_
      · simp -implicitDefEqProofs only [RUNS, qindex, Nat.reduceAdd, Nat.reduceLeDiff, Nat.reduceSub, reduceIte, Nat.reduceEqDiff, Nat.reduceLT, reduceCtorEq, Nat.reduceMul, Nat.reduceBEq, Int.reduceEq, if_true, if_false, eq_self, ne_eq, env_bT, Token.pv_eq, Part.pv_eq]
      refine AW.cond (b := !r47) rfl (fun hb54 => ?_) (fun hb54 => ?_)
      · replace h := bif_t hb54 h
        refine AW.seq ?_
        refine AW.reg hS [(2, as_ []), (3, as_ []), (4, ab false)] [.var [as_ x1, ai x48, .vec 1 l6.length, .vec 2 l7.length, ai x3, ai x49, ai x50], .row 32 4 (List.map Token.pv l6) true, .row 9 1 (List.map PV.str l7) true, .bld b17, .bld b18] ?_ ?_
        · simp -implicitDefEqProofs only [RUNS, qindex, Nat.reduceAdd, Nat.reduceLeDiff, Nat.reduceSub, reduceIte, Nat.reduceEqDiff, Nat.reduceLT, reduceCtorEq, Nat.reduceMul, Nat.reduceBEq, Int.reduceEq, if_true, if_false, eq_self, ne_eq, env_bT, Token.pv_eq, Part.pv_eq]
        refine AW.ret ?_
        cases h
        show finish _ _ _ _ _ = _
        first | rfl | (simp [finish, resOf, renArgs, toPV, selObjs, sl])
      · replace h := bif_f hb54 h
        refine AW.skip ?_
        refine AW.seq ?_
        replace h := Option.bind_eq_some_iff.1 h; obtain ⟨⟨n55, c56⟩, q57, h⟩ := h
        dsimp only at h
        have f58 := c_L_WriteString b17 r46 n55 c56 q57
        try dsimp only at f58
        have e59 : ecall O [.var [as_ x1, ai x48, .vec 1 l6.length, .vec 2 l7.length, ai x3, ai x49, ai x50], .row 32 4 (List.map Token.pv l6) true, .row 9 1 (List.map PV.str l7) true, .bld b17, .bld b18] 43 [.ref 3 0, as_ r46] = some (retAV [ai n55, .pv (.nil)], [.var [as_ x1, ai x48, .vec 1 l6.length, .vec 2 l7.length, ai x3, ai x49, ai x50], .row 32 4 (List.map Token.pv l6) true, .row 9 1 (List.map PV.str l7) true, .bld c56, .bld b18]) := ecall_eq rfl rfl rfl f58 rfl rfl rfl
        refine AW.reg hS [(0, .ref 0 0), (5, .ref 3 0), (6, .ref 4 0), (7, as_ r46)] [.var [as_ x1, ai x48, .vec 1 l6.length, .vec 2 l7.length, ai x3, ai x49, ai x50], .row 32 4 (List.map Token.pv l6) true, .row 9 1 (List.map PV.str l7) true, .bld c56, .bld b18] ?_ ?_
        · simp -implicitDefEqProofs only [RUNS, qindex, Nat.reduceAdd, Nat.reduceLeDiff, Nat.reduceSub, reduceIte, Nat.reduceEqDiff, Nat.reduceLT, reduceCtorEq, Nat.reduceMul, Nat.reduceBEq, Int.reduceEq, if_true, if_false, eq_self, ne_eq, env_bT, T_9, T_68, Token.pv_eq, Part.pv_eq, pf_43, e59]
        replace h := Option.bind_eq_some_iff.1 h; obtain ⟨t60, q61, h⟩ := h
        have f62 := c_L_Repeat [49] (r46.length : Int) t60 q61
        try dsimp only at f62
        try simp only [List.map_cons, List.map_nil, Token.pv_eq, Part.pv_eq] at f62
        replace h := Option.bind_eq_some_iff.1 h; obtain ⟨⟨n63, c64⟩, q65, h⟩ := h
        dsimp only at h
        have f66 := c_L_WriteString b18 t60 n63 c64 q65
        try dsimp only at f66
        have e67 : ecall O [.var [as_ x1, ai x48, .vec 1 l6.length, .vec 2 l7.length, ai x3, ai x49, ai x50], .row 32 4 (List.map Token.pv l6) true, .row 9 1 (List.map PV.str l7) true, .bld c56, .bld b18] 43 [.ref 4 0, as_ t60] = some (retAV [ai n63, .pv (.nil)], [.var [as_ x1, ai x48, .vec 1 l6.length, .vec 2 l7.length, ai x3, ai x49, ai x50], .row 32 4 (List.map Token.pv l6) true, .row 9 1 (List.map PV.str l7) true, .bld c56, .bld c64]) := ecall_eq rfl rfl rfl f66 rfl rfl rfl
        refine AW.reg hS [(0, .ref 0 0), (5, .ref 3 0), (6, .ref 4 0)] [.var [as_ x1, ai x48, .vec 1 l6.length, .vec 2 l7.length, ai x3, ai x49, ai x50], .row 32 4 (List.map Token.pv l6) true, .row 9 1 (List.map PV.str l7) true, .bld c56, .bld c64] ?_ ?_
        · simp -implicitDefEqProofs only [RUNS, qindex, Nat.reduceAdd, Nat.reduceLeDiff, Nat.reduceSub, reduceIte, Nat.reduceEqDiff, Nat.reduceLT, reduceCtorEq, Nat.reduceMul, Nat.reduceBEq, Int.reduceEq, if_true, if_false, eq_self, ne_eq, env_bT, T_3, T_9, T_68, Token.pv_eq, Part.pv_eq, pf_50, f62, pf_43, e67]
        exact ⟨(m21, (x48, x49, x50, c56, c64)), h, (Weak.norm (m := 5) (Nat.le_of_ble_eq_true rfl) ⟨rfl, rfl, rfl, trivial⟩ rfl rfl rfl), Nat.lt_succ_self _⟩
    · replace h := bif_f hb45 h
      refine AW.seq ?_
      replace h := Option.bind_eq_some_iff.1 h; obtain ⟨s68, q69, h⟩ := h
      have f70 := c_L_String b17 s68 q69
      try dsimp only at f70
      have e71 : ecall O [.var [as_ x1, ai x14, .vec 1 l6.length, .vec 2 l7.length, ai x3, ai x15, ai x16], .row 32 4 (List.map Token.pv l6) true, .row 9 1 (List.map PV.str l7) true, .bld b17, .bld b18] 44 [.ref 3 0] = some (retAV [as_ s68], [.var [as_ x1, ai x14, .vec 1 l6.length, .vec 2 l7.length, ai x3, ai x15, ai x16], .row 32 4 (List.map Token.pv l6) true, .row 9 1 (List.map PV.str l7) true, .gone, .bld b18]) := ecall_eq rfl rfl rfl f70 rfl rfl rfl
      replace h := Option.bind_eq_some_iff.1 h; obtain ⟨s72, q73, h⟩ := h
      have f74 := c_L_String b18 s72 q73
      try dsimp only at f74
      have e75 : ecall O [.var [as_ x1, ai x14, .vec 1 l6.length, .vec 2 l7.length, ai x3, ai x15, ai x16], .row 32 4 (List.map Token.pv l6) true, .row 9 1 (List.map PV.str l7) true, .gone, .bld b18] 44 [.ref 4 0] = some (retAV [as_ s72], [.var [as_ x1, ai x14, .vec 1 l6.length, .vec 2 l7.length, ai x3, ai x15, ai x16], .row 32 4 (List.map Token.pv l6) true, .row 9 1 (List.map PV.str l7) true, .gone, .gone]) := ecall_eq rfl rfl rfl f74 rfl rfl rfl
      refine AW.reg hS [(2, as_ s68), (3, as_ s72), (4, ab true)] [.var [as_ x1, ai x14, .vec 1 l6.length, .vec 2 l7.length, ai x3, ai x15, ai x16], .row 32 4 (List.map Token.pv l6) true, .row 9 1 (List.map PV.str l7) true, .gone, .gone] ?_ ?_
      · simp -implicitDefEqProofs only [RUNS, qindex, Nat.reduceAdd, Nat.reduceLeDiff, Nat.reduceSub, reduceIte, Nat.reduceEqDiff, Nat.reduceLT, reduceCtorEq, Nat.reduceMul, Nat.reduceBEq, Int.reduceEq, if_true, if_false, eq_self, ne_eq, env_bT, T_68, Token.pv_eq, Part.pv_eq, pf_44, e71, e75]
      refine AW.ret ?_
      cases h
      show finish _ _ _ _ _ = _
      first | rfl | (simp [finish, resOf, renArgs, toPV, selObjs, sl])

set_option maxHeartbeats 4000000 in
theorem g_F16 {O : Orc} (hS : Sound env O) (hpf : O.pf = pfn) (c_F11x2 : C_F11x2 O) (c_F28x1 : C_F28x1 O) (c_F26x2 : C_F26x2 O) (c_F25x1 : C_F25x1 O) (x1 : Str) (x2 : Int) (x3 : Int) (x4 : Int) (x5 : Int) (l6 : List Token) (l7 : List Str) (r8 : Bool) (x9 : Int) (x10 : Int) (x11 : Int) (o12 : List Token) (o13 : List Str) (h : F16 x1 x2 x3 x4 x5 l6 l7 = some (r8, x9, x10, x11, o12, o13)) : Good env 16 [.ref 0 0] [.var [as_ x1, ai x2, .vec 1 l6.length, .vec 2 l7.length, ai x3, ai x4, ai x5], .row 32 4 (List.map Token.pv l6) true, .row 9 1 (List.map PV.str l7) true] [ab r8] [.var [as_ x1, ai x9, .vec 1 o12.length, .vec 2 o13.length, ai x3, ai x10, ai x11], .row 32 4 (List.map Token.pv o12) true, .row 9 1 (List.map PV.str o13) true] := by
  have pf_11 : O.pf 11 = false := by rw [hpf]; rfl
  have pf_25 : O.pf 25 = false := by rw [hpf]; rfl
  have pf_26 : O.pf 26 = false := by rw [hpf]; rfl
  have pf_28 : O.pf 28 = false := by rw [hpf]; rfl
  refine Good.start (fn := Tryz.f16) (N := 58) fn_16 rfl rfl (by simp) [] _ rfl rfl ?_
  rw [F16] at h
  refine AW.seq ?_
  refine AW.reg hS [(0, .ref 0 0)] [.var [as_ x1, ai x2, .vec 1 l6.length, .vec 2 l7.length, ai x3, ai x4, ai x5], .row 32 4 (List.map Token.pv l6) true, .row 9 1 (List.map PV.str l7) true] ?_ ?_
  · simp -implicitDefEqProofs only [RUNS, qindex, Nat.reduceAdd, Nat.reduceLeDiff, Nat.reduceSub, reduceIte, Nat.reduceEqDiff, Nat.reduceLT, reduceCtorEq, Nat.reduceMul, Nat.reduceBEq, Int.reduceEq, if_true, if_false, eq_self, ne_eq, env_bT, Token.pv_eq, Part.pv_eq]
  refine AW.seq ?_
  refine AW.reg hS [(0, .ref 0 0), (3, ai x2)] [.var [as_ x1, ai x2, .vec 1 l6.length, .vec 2 l7.length, ai x3, ai x4, ai x5], .row 32 4 (List.map Token.pv l6) true, .row 9 1 (List.map PV.str l7) true] ?_ ?_
  · simp -implicitDefEqProofs only [RUNS, qindex, Nat.reduceAdd, Nat.reduceLeDiff, Nat.reduceSub, reduceIte, Nat.reduceEqDiff, Nat.reduceLT, reduceCtorEq, Nat.reduceMul, Nat.reduceBEq, Int.reduceEq, if_true, if_false, eq_self, ne_eq, env_bT, T_3, T_37, Token.pv_eq, Part.pv_eq]
  refine AW.seq ?_
  refine AW.reg hS [(0, .ref 0 0), (3, ai x2)] [.var [as_ x1, ai (IntKind.wrap .i64 (x2 + 2)), .vec 1 l6.length, .vec 2 l7.length, ai x3, ai x4, ai x5], .row 32 4 (List.map Token.pv l6) true, .row 9 1 (List.map PV.str l7) true] ?_ ?_
  · simp -implicitDefEqProofs only [RUNS, qindex, Nat.reduceAdd, Nat.reduceLeDiff, Nat.reduceSub, reduceIte, Nat.reduceEqDiff, Nat.reduceLT, reduceCtorEq, Nat.reduceMul, Nat.reduceBEq, Int.reduceEq, if_true, if_false, eq_self, ne_eq, env_bT, T_3, T_37, Token.pv_eq, Part.pv_eq, eqT_3]
  refine AW.seq ?_
  replace h := Option.bind_eq_some_iff.1 h; obtain ⟨x14, q15, h⟩ := h
  have f16 := c_F11x2 x1 (IntKind.wrap .i64 (x2 + 2)) x3 x4 x5 l6 l7 x14 q15
  try dsimp only at f16
  have e17 : ecall O [.var [as_ x1, ai (IntKind.wrap .i64 (x2 + 2)), .vec 1 l6.length, .vec 2 l7.length, ai x3, ai x4, ai x5], .row 32 4 (List.map Token.pv l6) true, .row 9 1 (List.map PV.str l7) true] 11 [.ref 0 0] = some (retAV [], [.var [as_ x1, ai x14, .vec 1 l6.length, .vec 2 l7.length, ai x3, ai x4, ai x5], .row 32 4 (List.map Token.pv l6) true, .row 9 1 (List.map PV.str l7) true]) := ecall_eq rfl rfl rfl f16 rfl rfl rfl
  refine AW.reg hS [(0, .ref 0 0), (3, ai x2)] [.var [as_ x1, ai x14, .vec 1 l6.length, .vec 2 l7.length, ai x3, ai x4, ai x5], .row 32 4 (List.map Token.pv l6) true, .row 9 1 (List.map PV.str l7) true] ?_ ?_
  · simp -implicitDefEqProofs only [RUNS, qindex, Nat.reduceAdd, Nat.reduceLeDiff, Nat.reduceSub, reduceIte, Nat.reduceEqDiff, Nat.reduceLT, reduceCtorEq, Nat.reduceMul, Nat.reduceBEq, Int.reduceEq, if_true, if_false, eq_self, ne_eq, env_bT, T_34, Token.pv_eq, Part.pv_eq, pf_11, e17]
  refine AW.seq ?_
  refine AW.reg hS [(0, .ref 0 0), (3, ai x2), (4, ai x14)] [.var [as_ x1, ai x14, .vec 1 l6.length, .vec 2 l7.length, ai x3, ai x4, ai x5], .row 32 4 (List.map Token.pv l6) true, .row 9 1 (List.map PV.str l7) true] ?_ ?_
  · simp -implicitDefEqProofs only [RUNS, qindex, Nat.reduceAdd, Nat.reduceLeDiff, Nat.reduceSub, reduceIte, Nat.reduceEqDiff, Nat.reduceLT, reduceCtorEq, Nat.reduceMul, Nat.reduceBEq, Int.reduceEq, if_true, if_false, eq_self, ne_eq, env_bT, T_3, T_37, Token.pv_eq, Part.pv_eq]
  refine AW.seq ?_
  replace h := Option.bind_eq_some_iff.1 h; obtain ⟨⟨r18, r19, r20, x21, x22, x23⟩, q24, h⟩ := h
  dsimp only at h
  have f25 := c_F28x1 x1 x14 x3 x4 x5 l6 l7 r18 r19 r20 x21 x22 x23 q24
  try dsimp only at f25
  have e26 : ecall O [.var [as_ x1, ai x14, .vec 1 l6.length, .vec 2 l7.length, ai x3, ai x4, ai x5], .row 32 4 (List.map Token.pv l6) true, .row 9 1 (List.map PV.str l7) true] 28 [.ref 0 0] = some (retAV [as_ r18, as_ r19, ab r20], [.var [as_ x1, ai x21, .vec 1 l6.length, .vec 2 l7.length, ai x3, ai x22, ai x23], .row 32 4 (List.map Token.pv l6) true, .row 9 1 (List.map PV.str l7) true]) := ecall_eq rfl rfl rfl f25 rfl rfl rfl
  refine AW.reg hS [(0, .ref 0 0), (3, ai x2), (4, ai x14), (5, as_ r18), (6, as_ r19), (7, ab r20)] [.var [as_ x1, ai x21, .vec 1 l6.length, .vec 2 l7.length, ai x3, ai x22, ai x23], .row 32 4 (List.map Token.pv l6) true, .row 9 1 (List.map PV.str l7) true] ?_ ?_
  · simp -implicitDefEqProofs only [RUNS, qindex, Nat.reduceAdd, Nat.reduceLeDiff, Nat.reduceSub, reduceIte, Nat.reduceEqDiff, Nat.reduceLT, reduceCtorEq, Nat.reduceMul, Nat.reduceBEq, Int.reduceEq, if_true, if_false, eq_self, ne_eq, env_bT, T_34, Token.pv_eq, Part.pv_eq, pf_28, e26]
  refine AW.seq ?_
  refine AW.seq ?_
  refine AW.reg hS [(0, .ref 0 0), (3, ai x2), (4, ai x14), (5, as_ r18), (6, as_ r19), (32, ab (!r20))] [.var [as_ x1, ai x21, .vec 1 l6.length, .vec 2 l7.length, ai x3, ai x22, ai x23], .row 32 4 (List.map Token.pv l6) true, .row 9 1 (List.map PV.str l7) true] ?_ ?_
  · simp -implicitDefEqProofs only [RUNS, qindex, Nat.reduceAdd, Nat.reduceLeDiff, Nat.reduceSub, reduceIte, Nat.reduceEqDiff, Nat.reduceLT, reduceCtorEq, Nat.reduceMul, Nat.reduceBEq, Int.reduceEq, if_true, if_false, eq_self, ne_eq, env_bT, Token.pv_eq, Part.pv_eq]
  refine AW.cond (b := !r20) rfl (fun hb27 => ?_) (fun hb27 => ?_)
  · replace h := bif_t hb27 h
    refine AW.seq ?_
    refine AW.reg hS [(2, ab false)] [.var [as_ x1, ai x21, .vec 1 l6.length, .vec 2 l7.length, ai x3, ai x22, ai x23], .row 32 4 (List.map Token.pv l6) true, .row 9 1 (List.map PV.str l7) true] ?_ ?_
    · simp -implicitDefEqProofs only [RUNS, qindex, Nat.reduceAdd, Nat.reduceLeDiff, Nat.reduceSub, reduceIte, Nat.reduceEqDiff, Nat.reduceLT, reduceCtorEq, Nat.reduceMul, Nat.reduceBEq, Int.reduceEq, if_true, if_false, eq_self, ne_eq, env_bT, Token.pv_eq, Part.pv_eq]
    refine AW.ret ?_
    cases h
    show finish _ _ _ _ _ = _
    first | rfl | (simp [finish, resOf, renArgs, toPV, selObjs, sl])
  · replace h := bif_f hb27 h
    refine AW.skip ?_
    refine AW.seq ?_
    refine AW.seq ?_
    refine AW.reg hS [(0, .ref 0 0), (3, ai x2), (4, ai x14), (5, as_ r18), (6, as_ r19), (38, ab (decide (x21 = x14)))] [.var [as_ x1, ai x21, .vec 1 l6.length, .vec 2 l7.length, ai x3, ai x22, ai x23], .row 32 4 (List.map Token.pv l6) true, .row 9 1 (List.map PV.str l7) true] ?_ ?_
    · simp -implicitDefEqProofs only [RUNS, qindex, Nat.reduceAdd, Nat.reduceLeDiff, Nat.reduceSub, reduceIte, Nat.reduceEqDiff, Nat.reduceLT, reduceCtorEq, Nat.reduceMul, Nat.reduceBEq, Int.reduceEq, if_true, if_false, eq_self, ne_eq, env_bT, T_3, T_37, Token.pv_eq, Part.pv_eq, eqT_3]
    refine AW.cond (b := decide (x21 = x14)) rfl (fun hb28 => ?_) (fun hb28 => ?_)
    · replace h := bif_t hb28 h
      refine AW.seq ?_
      replace h := Option.bind_eq_some_iff.1 h; obtain ⟨⟨r29, x30, x31⟩, q32, h⟩ := h
      dsimp only at h
      have f33 := c_F26x2 x14 47 x1 x21 x3 x22 x23 l6 l7 r29 x30 x31 q32
      try dsimp only at f33
      have e34 : ecall O [.var [as_ x1, ai x21, .vec 1 l6.length, .vec 2 l7.length, ai x3, ai x22, ai x23], .row 32 4 (List.map Token.pv l6) true, .row 9 1 (List.map PV.str l7) true] 26 [.ref 0 0, ai x14, ai 47] = some (retAV [ab r29], [.var [as_ x1, ai x21, .vec 1 l6.length, .vec 2 l7.length, ai x3, ai x30, ai x31], .row 32 4 (List.map Token.pv l6) true, .row 9 1 (List.map PV.str l7) true]) := ecall_eq rfl rfl rfl f33 rfl rfl rfl
      refine AW.reg hS [(2, ab r29)] [.var [as_ x1, ai x21, .vec 1 l6.length, .vec 2 l7.length, ai x3, ai x30, ai x31], .row 32 4 (List.map Token.pv l6) true, .row 9 1 (List.map PV.str l7) true] ?_ ?_
      · simp -implicitDefEqProofs only [RUNS, qindex, Nat.reduceAdd, Nat.reduceLeDiff, Nat.reduceSub, reduceIte, Nat.reduceEqDiff, Nat.reduceLT, reduceCtorEq, Nat.reduceMul, Nat.reduceBEq, Int.reduceEq, if_true, if_false, eq_self, ne_eq, env_bT, T_3, T_24, T_34, Token.pv_eq, Part.pv_eq, pf_26, e34]
      refine AW.ret ?_
      cases h
      show finish _ _ _ _ _ = _
      first | rfl | (simp [finish, resOf, renArgs, toPV, selObjs, sl])
    · replace h := bif_f hb28 h
      refine AW.skip ?_
      refine AW.seq ?_
      replace h := Option.bind_eq_some_iff.1 h; obtain ⟨out35, q36, h⟩ := h
      have f37 := appO_f q36
      try simp only [List.length_cons, List.length_nil, Nat.zero_add, Nat.reduceAdd, Nat.reduceLeDiff, Nat.add_zero, Nat.reduceMul] at f37
      refine AW.reg hS [(0, .ref 0 0), (3, ai x2), (5, as_ r18), (6, as_ r19)] [.var [as_ x1, ai x21, .vec 1 l6.length, .vec 2 out35.length, ai x3, ai x22, ai x23], .row 32 4 (List.map Token.pv l6) true, .row 9 1 (List.map PV.str out35) true] ?_ ?_
      · simp -implicitDefEqProofs only [RUNS, qindex, Nat.reduceAdd, Nat.reduceLeDiff, Nat.reduceSub, reduceIte, Nat.reduceEqDiff, Nat.reduceLT, reduceCtorEq, Nat.reduceMul, Nat.reduceBEq, Int.reduceEq, if_true, if_false, eq_self, ne_eq, env_bT, T_9, T_35, T_37, Token.pv_eq, Part.pv_eq, ownT_35, f37.1, f37.2, str_all] <;> (try simp only [List.length_take, List.length_drop, List.length_map])
      clear f37
      refine AW.seq ?_
      replace h := Option.bind_eq_some_iff.1 h; obtain ⟨⟨r38, x39, x40, o41⟩, q42, h⟩ := h
      dsimp only at h
      have f43 := c_F25x1 (Token.mk 4 x2 r18 r19) x1 x21 x3 x22 x23 l6 out35 r38 x39 x40 o41 q42
      try dsimp only at f43
      have e44 : ecall O [.var [as_ x1, ai x21, .vec 1 l6.length, .vec 2 out35.length, ai x3, ai x22, ai x23], .row 32 4 (List.map Token.pv l6) true, .row 9 1 (List.map PV.str out35) true] 25 [.ref 0 0, .pv (.agg [.int .i64 4, .int .i64 x2, .str r18, .str r19])] = some (retAV [ab r38], [.var [as_ x1, ai x21, .vec 1 o41.length, .vec 2 out35.length, ai x3, ai x39, ai x40], .row 32 4 (List.map Token.pv o41) true, .row 9 1 (List.map PV.str out35) true]) := ecall_eq rfl rfl rfl f43 rfl rfl rfl
      refine AW.reg hS [(2, ab r38)] [.var [as_ x1, ai x21, .vec 1 o41.length, .vec 2 out35.length, ai x3, ai x39, ai x40], .row 32 4 (List.map Token.pv o41) true, .row 9 1 (List.map PV.str out35) true] ?_ ?_
      · simp -implicitDefEqProofs only [RUNS, qindex, Nat.reduceAdd, Nat.reduceLeDiff, Nat.reduceSub, reduceIte, Nat.reduceEqDiff, Nat.reduceLT, reduceCtorEq, Nat.reduceMul, Nat.reduceBEq, Int.reduceEq, if_true, if_false, eq_self, ne_eq, env_bT, T_32, T_34, Token.pv_eq, Part.pv_eq, ownT_32, pf_25, e44]
      refine AW.ret ?_
      cases h
      show finish _ _ _ _ _ = _
      first | rfl | (simp [finish, resOf, renArgs, toPV, selObjs, sl])

set_option maxHeartbeats 4000000 in
theorem g_F29 {O : Orc} (hS : Sound env O) (hpf : O.pf = pfn) (x1 : Str) (x2 : Int) (x3 : Int) (x4 : Int) (x5 : Int) (l6 : List Token) (l7 : List Str) (r8 : Bool) (h : F29 x1 x2 x3 x4 x5 l6 l7 = some r8) : Good env 29 [.ref 0 0] [.var [as_ x1, ai x2, .vec 1 l6.length, .vec 2 l7.length, ai x3, ai x4, ai x5], .row 32 4 (List.map Token.pv l6) true, .row 9 1 (List.map PV.str l7) true] [ab r8] [.var [as_ x1, ai x2, .vec 1 l6.length, .vec 2 l7.length, ai x3, ai x4, ai x5], .row 32 4 (List.map Token.pv l6) true, .row 9 1 (List.map PV.str l7) true] := by
  refine Good.start (fn := Tryz.f29) (N := 34) fn_29 rfl rfl (by simp) [] _ rfl rfl ?_
  rw [F29] at h
  refine AW.seq ?_
  refine AW.reg hS [(0, .ref 0 0)] [.var [as_ x1, ai x2, .vec 1 l6.length, .vec 2 l7.length, ai x3, ai x4, ai x5], .row 32 4 (List.map Token.pv l6) true, .row 9 1 (List.map PV.str l7) true] ?_ ?_
  · simp -implicitDefEqProofs only [RUNS, qindex, Nat.reduceAdd, Nat.reduceLeDiff, Nat.reduceSub, reduceIte, Nat.reduceEqDiff, Nat.reduceLT, reduceCtorEq, Nat.reduceMul, Nat.reduceBEq, Int.reduceEq, if_true, if_false, eq_self, ne_eq, env_bT, Token.pv_eq, Part.pv_eq]
  refine AW.seq ?_
  refine AW.reg hS [(0, .ref 0 0), (3, ai (l6.length : Int))] [.var [as_ x1, ai x2, .vec 1 l6.length, .vec 2 l7.length, ai x3, ai x4, ai x5], .row 32 4 (List.map Token.pv l6) true, .row 9 1 (List.map PV.str l7) true] ?_ ?_
  · simp -implicitDefEqProofs only [RUNS, qindex, Nat.reduceAdd, Nat.reduceLeDiff, Nat.reduceSub, reduceIte, Nat.reduceEqDiff, Nat.reduceLT, reduceCtorEq, Nat.reduceMul, Nat.reduceBEq, Int.reduceEq, if_true, if_false, eq_self, ne_eq, env_bT, T_23, T_32, T_37, Token.pv_eq, Part.pv_eq]
  refine AW.seq ?_
  replace h := Option.bind_eq_some_iff.1 h; obtain ⟨u9, q10, h⟩ := h
  have f11 := lidx_g (guardO_t q10)
  refine AW.dreg mixed hS (hpf ▸ (by kernel_rfl : orderOK pfn _ = true)) [(2, ab ((decide (0 < (l6.length : Int)) && decide (u9.kind_ = 1)) && decide (x3 = x2)))] [.var [as_ x1, ai x2, .vec 1 l6.length, .vec 2 l7.length, ai x3, ai x4, ai x5], .row 32 4 (List.map Token.pv l6) true, .row 9 1 (List.map PV.str l7) true] ?_ ?_
  · clear h
    (simp -implicitDefEqProofs only [RUNS, qindex, Nat.reduceAdd, Nat.reduceLeDiff, Nat.reduceSub, reduceIte, Nat.reduceEqDiff, Nat.reduceLT, reduceCtorEq, Nat.reduceMul, Nat.reduceBEq, Int.reduceEq, if_true, if_false, eq_self, ne_eq, env_bT, T_3, T_23, T_32, T_37, Token.pv_eq, Part.pv_eq, eqT_3, f11.1, f11.2.1, f11.2.2]); repeat' (split <;> rename_i hb <;> (try simp only [HBS, ge_iff_le, gt_iff_lt] at hb) <;> simp -implicitDefEqProofs only [RUNS, qindex, Nat.reduceAdd, Nat.reduceLeDiff, Nat.reduceSub, reduceIte, Nat.reduceEqDiff, Nat.reduceLT, reduceCtorEq, Nat.reduceMul, Nat.reduceBEq, Int.reduceEq, if_true, if_false, eq_self, ne_eq, env_bT, T_3, T_23, T_32, T_37, Token.pv_eq, Part.pv_eq, eqT_3, f11.1, f11.2.1, f11.2.2, *, decide_true, decide_false, Decidable.not_not, not_false_eq_true, not_true_eq_false])
    all_goals (first | (simp only [BOOLS]; done) | (simp [*]; done) | ((try simp only [CLOS, beq_iff_eq, bne_iff_ne, ne_eq] at *) <;> omega) | (simp_all; done) | (simp_all <;> omega))
  refine AW.ret ?_
  cases h
  show finish _ _ _ _ _ = _
  first | rfl | (simp [finish, resOf, renArgs, toPV, selObjs, sl])

set_option maxHeartbeats 4000000 in
theorem g_F67 {O : Orc} (hS : Sound env O) (hpf : O.pf = pfn) (c_L_Atoi : C_L_Atoi O) (c_L_Itoa : C_L_Itoa O) (s1 : Str) (r2 : Bool) (h : F67 s1 = some r2) : Good env 67 [as_ s1] [] [ab r2] [] := by
  have pf_77 : O.pf 77 = true := by rw [hpf]; rfl
  have pf_78 : O.pf 78 = true := by rw [hpf]; rfl
  refine Good.start (fn := Tryz.f67) (N := 26) fn_67 rfl rfl (by simp) [] _ rfl rfl ?_
  rw [F67] at h
  refine AW.seq ?_
  refine AW.reg hS [(0, as_ s1)] [] ?_ ?_
  · simp -implicitDefEqProofs only [RUNS, qindex, Nat.reduceAdd, Nat.reduceLeDiff, Nat.reduceSub, reduceIte, Nat.reduceEqDiff, Nat.reduceLT, reduceCtorEq, Nat.reduceMul, Nat.reduceBEq, Int.reduceEq, if_true, if_false, eq_self, ne_eq, env_bT, Token.pv_eq, Part.pv_eq]
  refine AW.seq ?_
  replace h := Option.bind_eq_some_iff.1 h; obtain ⟨⟨n3, bad4⟩, q5, h⟩ := h
  dsimp only at h
  have f6 := c_L_Atoi s1 n3 bad4 q5
  try dsimp only at f6
  refine AW.reg hS [(0, as_ s1), (3, ai n3), (4, .pv ((bif bad4 then PV.ifc else PV.nil)))] [] ?_ ?_
  · simp -implicitDefEqProofs only [RUNS, qindex, Nat.reduceAdd, Nat.reduceLeDiff, Nat.reduceSub, reduceIte, Nat.reduceEqDiff, Nat.reduceLT, reduceCtorEq, Nat.reduceMul, Nat.reduceBEq, Int.reduceEq, if_true, if_false, eq_self, ne_eq, env_bT, T_9, Token.pv_eq, Part.pv_eq, pf_77, f6]
  refine AW.seq ?_
  replace h := Option.bind_eq_some_iff.1 h; obtain ⟨s7, q8, h⟩ := h
  have f9 := fun hg => c_L_Itoa n3 s7 (guardO_t q8 hg)
  try dsimp only at f9
  refine AW.reg hS [(2, ab (((!bad4 && decide (0 ≤ n3)) && decide (n3 < 64)) && decide (s7 = s1)))] [] ?_ ?_
  · clear h
    (simp -implicitDefEqProofs only [RUNS, qindex, Nat.reduceAdd, Nat.reduceLeDiff, Nat.reduceSub, reduceIte, Nat.reduceEqDiff, Nat.reduceLT, reduceCtorEq, Nat.reduceMul, Nat.reduceBEq, Int.reduceEq, if_true, if_false, eq_self, ne_eq, env_bT, T_3, T_9, T_71, Token.pv_eq, Part.pv_eq, eqT_71, qnil2_eql T_71, qnil2_neq T_71, eqT_3, pf_78, f9, eqT_9]); repeat' (split <;> rename_i hb <;> (try simp only [HBS, ge_iff_le, gt_iff_lt] at hb) <;> simp -implicitDefEqProofs only [RUNS, qindex, Nat.reduceAdd, Nat.reduceLeDiff, Nat.reduceSub, reduceIte, Nat.reduceEqDiff, Nat.reduceLT, reduceCtorEq, Nat.reduceMul, Nat.reduceBEq, Int.reduceEq, if_true, if_false, eq_self, ne_eq, env_bT, T_3, T_9, T_71, Token.pv_eq, Part.pv_eq, eqT_71, qnil2_eql T_71, qnil2_neq T_71, eqT_3, pf_78, f9, eqT_9, *, decide_true, decide_false, Decidable.not_not, not_false_eq_true, not_true_eq_false])
    all_goals (first | (simp only [BOOLS]; done) | (simp [*]; done) | ((try simp only [CLOS, beq_iff_eq, bne_iff_ne, ne_eq] at *) <;> omega) | (simp_all; done) | (simp_all <;> omega))
  refine AW.ret ?_
  cases h
  show finish _ _ _ _ _ = _
  first | rfl | (simp [finish, resOf, renArgs, toPV, selObjs, sl])

set_option maxHeartbeats 4000000 in
theorem g_F51 {O : Orc} (hS : Sound env O) (hpf : O.pf = pfn) (c_L_IndexByte : C_L_IndexByte O) (c_L_Cut : C_L_Cut O) (c_F67 : C_F67 O) (s1 : Str) (pair2 : Bool) (r3 : Int) (h : F51 s1 pair2 = some r3) : Good env 51 [as_ s1, ab pair2] [] [ai r3] [] := by
  have pf_13 : O.pf 13 = true := by rw [hpf]; rfl
  have pf_41 : O.pf 41 = true := by rw [hpf]; rfl
  have pf_67 : O.pf 67 = true := by rw [hpf]; rfl
  refine Good.start (fn := Tryz.f51) (N := 42) fn_51 rfl rfl (by simp) [] _ rfl rfl ?_
  rw [F51] at h
  refine AW.seq ?_
  refine AW.reg hS [(0, as_ s1), (1, ab pair2)] [] ?_ ?_
  · simp -implicitDefEqProofs only [RUNS, qindex, Nat.reduceAdd, Nat.reduceLeDiff, Nat.reduceSub, reduceIte, Nat.reduceEqDiff, Nat.reduceLT, reduceCtorEq, Nat.reduceMul, Nat.reduceBEq, Int.reduceEq, if_true, if_false, eq_self, ne_eq, env_bT, Token.pv_eq, Part.pv_eq]
  refine AW.seq ?_
  replace h := Option.bind_eq_some_iff.1 h; obtain ⟨n4, q5, h⟩ := h
  have f6 := c_L_IndexByte s1 93 n4 q5
  try dsimp only at f6
  refine AW.reg hS [(0, as_ s1), (1, ab pair2), (5, ai n4)] [] ?_ ?_
  · simp -implicitDefEqProofs only [RUNS, qindex, Nat.reduceAdd, Nat.reduceLeDiff, Nat.reduceSub, reduceIte, Nat.reduceEqDiff, Nat.reduceLT, reduceCtorEq, Nat.reduceMul, Nat.reduceBEq, Int.reduceEq, if_true, if_false, eq_self, ne_eq, env_bT, T_5, T_9, Token.pv_eq, Part.pv_eq, pf_13, f6]
  refine AW.seq ?_
  refine AW.seq ?_
  refine AW.reg hS [(0, as_ s1), (1, ab pair2), (5, ai n4), (12, ab (decide (n4 < 0)))] [] ?_ ?_
  · simp -implicitDefEqProofs only [RUNS, qindex, Nat.reduceAdd, Nat.reduceLeDiff, Nat.reduceSub, reduceIte, Nat.reduceEqDiff, Nat.reduceLT, reduceCtorEq, Nat.reduceMul, Nat.reduceBEq, Int.reduceEq, if_true, if_false, eq_self, ne_eq, env_bT, T_3, Token.pv_eq, Part.pv_eq, eqT_3]
  refine AW.cond (b := decide (n4 < 0)) rfl (fun hb7 => ?_) (fun hb7 => ?_)
  · replace h := bif_t hb7 h
    refine AW.seq ?_
    refine AW.reg hS [(4, ai 0)] [] ?_ ?_
    · simp -implicitDefEqProofs only [RUNS, qindex, Nat.reduceAdd, Nat.reduceLeDiff, Nat.reduceSub, reduceIte, Nat.reduceEqDiff, Nat.reduceLT, reduceCtorEq, Nat.reduceMul, Nat.reduceBEq, Int.reduceEq, if_true, if_false, eq_self, ne_eq, env_bT, Token.pv_eq, Part.pv_eq]
    refine AW.ret ?_
    cases h
    show finish _ _ _ _ _ = _
    first | rfl | (simp [finish, resOf, renArgs, toPV, selObjs, sl])
  · replace h := bif_f hb7 h
    refine AW.skip ?_
    refine AW.seq ?_
    replace h := Option.bind_eq_some_iff.1 h; obtain ⟨t8, q9, h⟩ := h
    have f10 := sslice_f q9
    have f10e := f10.2.2.2.2
    try simp only [Int.toNat_natCast, Int.toNat_zero, List.drop_zero] at f10e
    have f10l := f10.2.2.1
    try simp only [Int.toNat_natCast, Int.toNat_zero] at f10l
    replace h := Option.bind_eq_some_iff.1 h; obtain ⟨⟨a11, b12, ok13⟩, q14, h⟩ := h
    dsimp only at h
    have f15 := c_L_Cut t8 [61] a11 b12 ok13 q14
    try dsimp only at f15
    try simp only [List.map_cons, List.map_nil, Token.pv_eq, Part.pv_eq] at f15
    refine AW.reg hS [(1, ab pair2), (5, ai n4), (6, as_ a11), (7, as_ b12), (8, ab ok13)] [] ?_ ?_
    · simp -implicitDefEqProofs only [RUNS, qindex, Nat.reduceAdd, Nat.reduceLeDiff, Nat.reduceSub, reduceIte, Nat.reduceEqDiff, Nat.reduceLT, reduceCtorEq, Nat.reduceMul, Nat.reduceBEq, Int.reduceEq, if_true, if_false, eq_self, ne_eq, env_bT, T_9, Token.pv_eq, Part.pv_eq, f10.1, f10.2.1, f10l, f10.2.2.2.1, f10e, Int.toNat_natCast, Int.toNat_zero, pf_41, f15]
    refine AW.seq ?_
    refine AW.seq ?_
    replace h := Option.bind_eq_some_iff.1 h; obtain ⟨r16, q17, h⟩ := h
    have f18 := c_F67 a11 r16 q17
    try dsimp only at f18
    replace h := Option.bind_eq_some_iff.1 h; obtain ⟨r19, q20, h⟩ := h
    have f21 := fun hg => c_F67 b12 r19 (guardO_t q20 hg)
    try dsimp only at f21
    refine AW.reg hS [(5, ai n4), (39, ab (!r16 || (ok13 && (!pair2 || (!decide (b12 = []) && !r19)))))] [] ?_ ?_
    · clear h
      (simp -implicitDefEqProofs only [RUNS, qindex, Nat.reduceAdd, Nat.reduceLeDiff, Nat.reduceSub, reduceIte, Nat.reduceEqDiff, Nat.reduceLT, reduceCtorEq, Nat.reduceMul, Nat.reduceBEq, Int.reduceEq, if_true, if_false, eq_self, ne_eq, env_bT, T_9, Token.pv_eq, Part.pv_eq, pf_67, f18, eqT_9, f21]); repeat' (split <;> rename_i hb <;> (try simp only [HBS, ge_iff_le, gt_iff_lt] at hb) <;> simp -implicitDefEqProofs only [RUNS, qindex, Nat.reduceAdd, Nat.reduceLeDiff, Nat.reduceSub, reduceIte, Nat.reduceEqDiff, Nat.reduceLT, reduceCtorEq, Nat.reduceMul, Nat.reduceBEq, Int.reduceEq, if_true, if_false, eq_self, ne_eq, env_bT, T_9, Token.pv_eq, Part.pv_eq, pf_67, f18, eqT_9, f21, *, decide_true, decide_false, Decidable.not_not, not_false_eq_true, not_true_eq_false])
      all_goals (first | (simp only [BOOLS]; done) | (simp [*]; done) | ((try simp only [CLOS, beq_iff_eq, bne_iff_ne, ne_eq] at *) <;> omega) | (simp_all; done) | (simp_all <;> omega))
    refine AW.cond (b := (!r16 || (ok13 && (!pair2 || (!decide (b12 = []) && !r19))))) rfl (fun hb22 => ?_) (fun hb22 => ?_)
    · replace h := bif_t hb22 h
      refine AW.seq ?_
      refine AW.reg hS [(4, ai 0)] [] ?_ ?_
      · simp -implicitDefEqProofs only [RUNS, qindex, Nat.reduceAdd, Nat.reduceLeDiff, Nat.reduceSub, reduceIte, Nat.reduceEqDiff, Nat.reduceLT, reduceCtorEq, Nat.reduceMul, Nat.reduceBEq, Int.reduceEq, if_true, if_false, eq_self, ne_eq, env_bT, Token.pv_eq, Part.pv_eq]
      refine AW.ret ?_
      cases h
      show finish _ _ _ _ _ = _
      first | rfl | (simp [finish, resOf, renArgs, toPV, selObjs, sl])
    · replace h := bif_f hb22 h
      refine AW.skip ?_
      refine AW.seq ?_
      refine AW.reg hS [(4, ai (IntKind.wrap .i64 (n4 + 1)))] [] ?_ ?_
      · simp -implicitDefEqProofs only [RUNS, qindex, Nat.reduceAdd, Nat.reduceLeDiff, Nat.reduceSub, reduceIte, Nat.reduceEqDiff, Nat.reduceLT, reduceCtorEq, Nat.reduceMul, Nat.reduceBEq, Int.reduceEq, if_true, if_false, eq_self, ne_eq, env_bT, T_3, Token.pv_eq, Part.pv_eq, eqT_3]
      refine AW.ret ?_
      cases h
      show finish _ _ _ _ _ = _
      first | rfl | (simp [finish, resOf, renArgs, toPV, selObjs, sl])

end Go.Abs.U47
