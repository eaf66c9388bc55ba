/- The layer 47 laws: the functions walked. -/
import Derived.Test.YtdmihmnegakgbaaGreatDoorD1
set_option linter.unusedVariables false
set_option linter.unusedSimpArgs false
set_option maxRecDepth 8000
namespace Go.Abs.U47
open Go.RowKit Go.Proofs

set_option maxHeartbeats 4000000 in
theorem g_F35 {O : Orc} (hS : Sound env O) (hpf : O.pf = pfn) (c_F19 : C_F19 O) (xat1 : Int) (xend2 : Int) (xname3 : Bool) (xe4 : Int) (xoff5 : Int) (t6 : Token) (l7 : List Token) (l8 : List Str) (at9 : Int) (end10 : Int) (name11 : Bool) (e12 : Int) (off13 : Int) (o14 : List Token) (h : F35 xat1 xend2 xname3 xe4 xoff5 t6 l7 l8 = some (at9, end10, name11, e12, off13, o14)) : Good env 35 [.agg [ai xat1, .vec 0 l7.length, ai xend2, ab xname3, .vec 1 l8.length, ai xe4, ai xoff5], .pv (.agg [.int .i64 t6.kind_, .int .i64 t6.at_, .str t6.text_, .str t6.quoted_])] [.row 32 4 (List.map Token.pv l7) true, .row 9 1 (List.map PV.str l8) true] [.agg [ai at9, .vec 0 o14.length, ai end10, ab name11, .vec 1 l8.length, ai e12, ai off13]] [.row 32 4 (List.map Token.pv o14) true, .row 9 1 (List.map PV.str l8) true] := by
  have pf_19 : O.pf 19 = false := by rw [hpf]; rfl
  refine Good.start (fn := Tryz.f35) (N := 20) fn_35 rfl rfl (by simp) [] _ rfl rfl ?_
  rw [F35] at h
  refine AW.seq ?_
  refine AW.reg hS [(2, .ref 2 0), (3, .ref 3 0), (4, .ref 4 0)] [.row 32 4 (List.map Token.pv l7) true, .row 9 1 (List.map PV.str l8) true, .var [ai xat1, .vec 0 l7.length, ai xend2, ab xname3, .vec 1 l8.length, ai xe4, ai xoff5], .var [ai t6.kind_, ai t6.at_, as_ t6.text_, as_ t6.quoted_], .var [ai 0, .nils, ai 0, ab false, .nils, ai 0, ai 0]] ?_ ?_
  · simp -implicitDefEqProofs only [RUNS, qindex, Nat.reduceAdd, Nat.reduceLeDiff, Nat.reduceSub, reduceIte, Nat.reduceEqDiff, Nat.reduceLT, reduceCtorEq, Nat.reduceMul, Nat.reduceBEq, Int.reduceEq, if_true, if_false, eq_self, ne_eq, env_bT, T_32, T_42, Token.pv_eq, Part.pv_eq]
  refine AW.seq ?_
  refine AW.seq ?_
  refine AW.reg hS [(2, .ref 2 0), (3, .ref 3 0), (4, .ref 4 0), (8, ab (decide (1024 ≤ (l7.length : Int))))] [.row 32 4 (List.map Token.pv l7) true, .row 9 1 (List.map PV.str l8) true, .var [ai xat1, .vec 0 l7.length, ai xend2, ab xname3, .vec 1 l8.length, ai xe4, ai xoff5], .var [ai t6.kind_, ai t6.at_, as_ t6.text_, as_ t6.quoted_], .var [ai 0, .nils, ai 0, ab false, .nils, ai 0, ai 0]] ?_ ?_
  · simp -implicitDefEqProofs only [RUNS, qindex, Nat.reduceAdd, Nat.reduceLeDiff, Nat.reduceSub, reduceIte, Nat.reduceEqDiff, Nat.reduceLT, reduceCtorEq, Nat.reduceMul, Nat.reduceBEq, Int.reduceEq, if_true, if_false, eq_self, ne_eq, env_bT, T_3, T_23, T_32, T_42, Token.pv_eq, Part.pv_eq, eqT_3]
  refine AW.cond (b := decide (1024 ≤ (l7.length : Int))) rfl (fun hb15 => ?_) (fun hb15 => ?_)
  · replace h := bif_t hb15 h
    refine AW.seq ?_
    replace h := Option.bind_eq_some_iff.1 h; obtain ⟨⟨at16, end17, name18, e19, off20⟩, q21, h⟩ := h
    dsimp only at h
    have f22 := c_F19 xat1 xend2 xname3 xe4 xoff5 4 t6.at_ l7 l8 at16 end17 name18 e19 off20 q21
    try dsimp only at f22
    have e23 : ecall O [.row 32 4 (List.map Token.pv l7) true, .row 9 1 (List.map PV.str l8) true, .var [ai xat1, .vec 0 l7.length, ai xend2, ab xname3, .vec 1 l8.length, ai xe4, ai xoff5], .var [ai t6.kind_, ai t6.at_, as_ t6.text_, as_ t6.quoted_], .var [ai 0, .nils, ai 0, ab false, .nils, ai 0, ai 0]] 19 [.agg [ai xat1, .vec 0 l7.length, ai xend2, ab xname3, .vec 1 l8.length, ai xe4, ai xoff5], ai 4, ai t6.at_] = some (retAV [.agg [ai at16, .vec 0 l7.length, ai end17, ab name18, .vec 1 l8.length, ai e19, ai off20]], [.row 32 4 (List.map Token.pv l7) true, .row 9 1 (List.map PV.str l8) true, .var [ai xat1, .vec 0 l7.length, ai xend2, ab xname3, .vec 1 l8.length, ai xe4, ai xoff5], .var [ai t6.kind_, ai t6.at_, as_ t6.text_, as_ t6.quoted_], .var [ai 0, .nils, ai 0, ab false, .nils, ai 0, ai 0]]) := ecall_eq rfl rfl rfl f22 rfl rfl rfl
    refine AW.reg hS [(4, .ref 4 0)] [.row 32 4 (List.map Token.pv l7) true, .row 9 1 (List.map PV.str l8) true, .var [ai xat1, .vec 0 l7.length, ai xend2, ab xname3, .vec 1 l8.length, ai xe4, ai xoff5], .var [ai t6.kind_, ai t6.at_, as_ t6.text_, as_ t6.quoted_], .var [ai at16, .vec 0 l7.length, ai end17, ab name18, .vec 1 l8.length, ai e19, ai off20]] ?_ ?_
    · simp -implicitDefEqProofs only [RUNS, qindex, Nat.reduceAdd, Nat.reduceLeDiff, Nat.reduceSub, reduceIte, Nat.reduceEqDiff, Nat.reduceLT, reduceCtorEq, Nat.reduceMul, Nat.reduceBEq, Int.reduceEq, if_true, if_false, eq_self, ne_eq, env_bT, T_3, T_24, T_32, T_42, Token.pv_eq, Part.pv_eq, pf_19, e23]
    refine AW.ret ?_
    cases h
    show finish _ _ _ _ _ = _
    first | rfl | (simp [finish, resOf, renArgs, toPV, selObjs, sl])
  · replace h := bif_f hb15 h
    refine AW.skip ?_
    refine AW.seq ?_
    replace h := Option.bind_eq_some_iff.1 h; obtain ⟨out24, q25, h⟩ := h
    have f26 := appO_f q25
    try simp only [List.length_cons, List.length_nil, Nat.zero_add, Nat.reduceAdd, Nat.reduceLeDiff, Nat.add_zero, Nat.reduceMul] at f26
    refine AW.reg hS [(2, .ref 2 0), (4, .ref 4 0)] [.row 32 4 (List.map Token.pv out24) true, .row 9 1 (List.map PV.str l8) true, .var [ai xat1, .vec 0 out24.length, ai xend2, ab xname3, .vec 1 l8.length, ai xe4, ai xoff5], .var [ai t6.kind_, ai t6.at_, as_ t6.text_, as_ t6.quoted_], .var [ai 0, .nils, ai 0, ab false, .nils, ai 0, ai 0]] ?_ ?_
    · simp -implicitDefEqProofs only [RUNS, qindex, Nat.reduceAdd, Nat.reduceLeDiff, Nat.reduceSub, reduceIte, Nat.reduceEqDiff, Nat.reduceLT, reduceCtorEq, Nat.reduceMul, Nat.reduceBEq, Int.reduceEq, if_true, if_false, eq_self, ne_eq, env_bT, T_23, T_32, T_42, Token.pv_eq, Part.pv_eq, ownT_23, f26.1, f26.2, Token.all] <;> (try simp only [List.length_take, List.length_drop, List.length_map])
    clear f26
    refine AW.seq ?_
    refine AW.reg hS [(4, .ref 4 0)] [.row 32 4 (List.map Token.pv out24) true, .row 9 1 (List.map PV.str l8) true, .var [ai xat1, .vec 0 out24.length, ai xend2, ab xname3, .vec 1 l8.length, ai xe4, ai xoff5], .var [ai t6.kind_, ai t6.at_, as_ t6.text_, as_ t6.quoted_], .var [ai xat1, .vec 0 out24.length, ai xend2, ab xname3, .vec 1 l8.length, ai xe4, ai xoff5]] ?_ ?_
    · simp -implicitDefEqProofs only [RUNS, qindex, Nat.reduceAdd, Nat.reduceLeDiff, Nat.reduceSub, reduceIte, Nat.reduceEqDiff, Nat.reduceLT, reduceCtorEq, Nat.reduceMul, Nat.reduceBEq, Int.reduceEq, if_true, if_false, eq_self, ne_eq, env_bT, T_42, Token.pv_eq, Part.pv_eq]
    refine AW.ret ?_
    cases h
    show finish _ _ _ _ _ = _
    first | rfl | (simp [finish, resOf, renArgs, toPV, selObjs, sl])

set_option maxHeartbeats 4000000 in
theorem g_F33 {O : Orc} (hS : Sound env O) (hpf : O.pf = pfn) (c_F53 : C_F53 O) (c_F19 : C_F19 O) (c_F35 : C_F35 O) (s1 : Str) (xat2 : Int) (xend3 : Int) (xname4 : Bool) (xe5 : Int) (xoff6 : Int) (l7 : List Token) (l8 : List Str) (at9 : Int) (end10 : Int) (name11 : Bool) (e12 : Int) (off13 : Int) (o14 : List Token) (h : F33 s1 xat2 xend3 xname4 xe5 xoff6 l7 l8 = some (at9, end10, name11, e12, off13, o14)) : Good env 33 [as_ s1, .agg [ai xat2, .vec 0 l7.length, ai xend3, ab xname4, .vec 1 l8.length, ai xe5, ai xoff6]] [.row 32 4 (List.map Token.pv l7) true, .row 9 1 (List.map PV.str l8) true] [.agg [ai at9, .vec 0 o14.length, ai end10, ab name11, .vec 1 l8.length, ai e12, ai off13]] [.row 32 4 (List.map Token.pv o14) true, .row 9 1 (List.map PV.str l8) true] := by
  have pf_19 : O.pf 19 = false := by rw [hpf]; rfl
  have pf_35 : O.pf 35 = false := by rw [hpf]; rfl
  have pf_53 : O.pf 53 = true := by rw [hpf]; rfl
  refine Good.start (fn := Tryz.f33) (N := 48) fn_33 rfl rfl (by simp) [] _ rfl rfl ?_
  rw [F33] at h
  refine AW.seq ?_
  refine AW.reg hS [(0, as_ s1), (3, .ref 2 0), (4, .ref 3 0)] [.row 32 4 (List.map Token.pv l7) true, .row 9 1 (List.map PV.str l8) true, .var [ai xat2, .vec 0 l7.length, ai xend3, ab xname4, .vec 1 l8.length, ai xe5, ai xoff6], .var [ai 0, .nils, ai 0, ab false, .nils, ai 0, ai 0]] ?_ ?_
  · simp -implicitDefEqProofs only [RUNS, qindex, Nat.reduceAdd, Nat.reduceLeDiff, Nat.reduceSub, reduceIte, Nat.reduceEqDiff, Nat.reduceLT, reduceCtorEq, Nat.reduceMul, Nat.reduceBEq, Int.reduceEq, if_true, if_false, eq_self, ne_eq, env_bT, T_42, Token.pv_eq, Part.pv_eq]
  refine AW.seq ?_
  refine AW.reg hS [(0, as_ s1), (3, .ref 2 0), (4, .ref 3 0), (5, ai xat2)] [.row 32 4 (List.map Token.pv l7) true, .row 9 1 (List.map PV.str l8) true, .var [ai xat2, .vec 0 l7.length, ai xend3, ab xname4, .vec 1 l8.length, ai xe5, ai xoff6], .var [ai 0, .nils, ai 0, ab false, .nils, ai 0, ai 0]] ?_ ?_
  · simp -implicitDefEqProofs only [RUNS, qindex, Nat.reduceAdd, Nat.reduceLeDiff, Nat.reduceSub, reduceIte, Nat.reduceEqDiff, Nat.reduceLT, reduceCtorEq, Nat.reduceMul, Nat.reduceBEq, Int.reduceEq, if_true, if_false, eq_self, ne_eq, env_bT, T_3, T_42, Token.pv_eq, Part.pv_eq]
  refine AW.seq ?_
  refine AW.reg hS [(0, as_ s1), (3, .ref 2 0), (4, .ref 3 0), (5, ai xat2), (6, as_ [])] [.row 32 4 (List.map Token.pv l7) true, .row 9 1 (List.map PV.str l8) true, .var [ai xat2, .vec 0 l7.length, ai xend3, ab xname4, .vec 1 l8.length, ai xe5, ai xoff6], .var [ai 0, .nils, ai 0, ab false, .nils, ai 0, ai 0]] ?_ ?_
  · simp -implicitDefEqProofs only [RUNS, qindex, Nat.reduceAdd, Nat.reduceLeDiff, Nat.reduceSub, reduceIte, Nat.reduceEqDiff, Nat.reduceLT, reduceCtorEq, Nat.reduceMul, Nat.reduceBEq, Int.reduceEq, if_true, if_false, eq_self, ne_eq, env_bT, Token.pv_eq, Part.pv_eq]
  refine AW.seq ?_
  refine AW.block ?_
  refine AW.weak (Weak.slots (L := [(0, as_ s1), (3, .ref 2 0), (4, .ref 3 0), (5, ai xat2), (6, as_ [])]) ⟨rfl, rfl, rfl, rfl, rfl, trivial⟩) ?_
  refine AW.loopI (α := Nat × Int × Str) (fun (_, to15, marks16) => ⟨sl [(0, as_ s1), (3, .ref 2 0), (4, .ref 3 0), (5, ai to15), (6, as_ marks16)], 48, [.row 32 4 (List.map Token.pv l7) true, .row 9 1 (List.map PV.str l8) true, .var [ai xat2, .vec 0 l7.length, ai xend3, ab xname4, .vec 1 l8.length, ai xe5, ai xoff6], .var [ai 0, .nils, ai 0, ab false, .nils, ai 0, ai 0]]⟩) (fun x => iter (F33_b1 s1 xat2 xend3 xname4 xe5 xoff6 l7 l8) x.1 x.2 = some (at9, end10, name11, e12, off13, o14)) (fun x => x.1) (BIG, (xat2, [])) h ?_
  clear h
  intro ⟨n51, to15, marks16⟩ h
  replace h := iter_some h; obtain ⟨m19, rfl, h⟩ := h
  rw [F33_b1] at h
  try dsimp only at h
  show AW _ _ _ _ ⟨sl [(0, as_ s1), (3, .ref 2 0), (4, .ref 3 0), (5, ai to15), (6, as_ marks16)], 48, [.row 32 4 (List.map Token.pv l7) true, .row 9 1 (List.map PV.str l8) true, .var [ai xat2, .vec 0 l7.length, ai xend3, ab xname4, .vec 1 l8.length, ai xe5, ai xoff6], .var [ai 0, .nils, ai 0, ab false, .nils, ai 0, ai 0]]⟩
  refine AW.seq ?_
  refine AW.seq ?_
  replace h := Option.bind_eq_some_iff.1 h; obtain ⟨c20, q21, h⟩ := h
  have f22 := sidx_g (guardO_t q21)
  replace h := Option.bind_eq_some_iff.1 h; obtain ⟨r23, q24, h⟩ := h
  have f25 := fun hg => c_F53 c20 r23 (guardO_t q24 hg)
  try dsimp only at f25
  refine AW.reg hS [(0, as_ s1), (3, .ref 2 0), (4, .ref 3 0), (5, ai to15), (6, as_ marks16), (18, ab (decide (to15 < (s1.length : Int)) && r23))] [.row 32 4 (List.map Token.pv l7) true, .row 9 1 (List.map PV.str l8) true, .var [ai xat2, .vec 0 l7.length, ai xend3, ab xname4, .vec 1 l8.length, ai xe5, ai xoff6], .var [ai 0, .nils, ai 0, ab false, .nils, ai 0, ai 0]] ?_ ?_
  · clear h
    (simp -implicitDefEqProofs only [RUNS, qindex, Nat.reduceAdd, Nat.reduceLeDiff, Nat.reduceSub, reduceIte, Nat.reduceEqDiff, Nat.reduceLT, reduceCtorEq, Nat.reduceMul, Nat.reduceBEq, Int.reduceEq, if_true, if_false, eq_self, ne_eq, env_bT, T_3, T_5, T_9, Token.pv_eq, Part.pv_eq, eqT_3, f22.1, f22.2.1, f22.2.2, pf_53, f25]); repeat' (split <;> rename_i hb <;> (try simp only [HBS, ge_iff_le, gt_iff_lt] at hb) <;> simp -implicitDefEqProofs only [RUNS, qindex, Nat.reduceAdd, Nat.reduceLeDiff, Nat.reduceSub, reduceIte, Nat.reduceEqDiff, Nat.reduceLT, reduceCtorEq, Nat.reduceMul, Nat.reduceBEq, Int.reduceEq, if_true, if_false, eq_self, ne_eq, env_bT, T_3, T_5, T_9, Token.pv_eq, Part.pv_eq, eqT_3, f22.1, f22.2.1, f22.2.2, pf_53, f25, *, decide_true, decide_false, Decidable.not_not, not_false_eq_true, not_true_eq_false])
    all_goals (first | (simp only [BOOLS]; done) | (simp [*]; done) | ((try simp only [CLOS, beq_iff_eq, bne_iff_ne, ne_eq] at *) <;> omega) | (simp_all; done) | (simp_all <;> omega))
  refine AW.cond (b := (decide (to15 < (s1.length : Int)) && r23)) rfl (fun hb26 => ?_) (fun hb26 => ?_)
  · replace h := bif_t hb26 h
    refine AW.skip ?_
    refine AW.block ?_
    refine AW.seq ?_
    refine AW.reg hS [(0, as_ s1), (3, .ref 2 0), (4, .ref 3 0), (5, ai (IntKind.wrap .i64 (to15 + 1))), (6, as_ marks16)] [.row 32 4 (List.map Token.pv l7) true, .row 9 1 (List.map PV.str l8) true, .var [ai xat2, .vec 0 l7.length, ai xend3, ab xname4, .vec 1 l8.length, ai xe5, ai xoff6], .var [ai 0, .nils, ai 0, ab false, .nils, ai 0, ai 0]] ?_ ?_
    · simp -implicitDefEqProofs only [RUNS, qindex, Nat.reduceAdd, Nat.reduceLeDiff, Nat.reduceSub, reduceIte, Nat.reduceEqDiff, Nat.reduceLT, reduceCtorEq, Nat.reduceMul, Nat.reduceBEq, Int.reduceEq, if_true, if_false, eq_self, ne_eq, env_bT, T_3, Token.pv_eq, Part.pv_eq, eqT_3]
    replace h := Option.bind_eq_some_iff.1 h; obtain ⟨s27, q28, h⟩ := h
    have f29 := catO_f q28
    try simp only [List.length_cons, List.length_nil, Nat.zero_add, Nat.reduceAdd, Nat.reduceLeDiff, Nat.add_zero, Nat.reduceMul] at f29
    refine AW.reg hS [(0, as_ s1), (3, .ref 2 0), (4, .ref 3 0), (5, ai (IntKind.wrap .i64 (to15 + 1))), (6, as_ s27)] [.row 32 4 (List.map Token.pv l7) true, .row 9 1 (List.map PV.str l8) true, .var [ai xat2, .vec 0 l7.length, ai xend3, ab xname4, .vec 1 l8.length, ai xe5, ai xoff6], .var [ai 0, .nils, ai 0, ab false, .nils, ai 0, ai 0]] ?_ ?_
    · simp -implicitDefEqProofs only [RUNS, qindex, Nat.reduceAdd, Nat.reduceLeDiff, Nat.reduceSub, reduceIte, Nat.reduceEqDiff, Nat.reduceLT, reduceCtorEq, Nat.reduceMul, Nat.reduceBEq, Int.reduceEq, if_true, if_false, eq_self, ne_eq, env_bT, T_9, Token.pv_eq, Part.pv_eq, eqT_9, f29.1, f29.2]
    exact ⟨(m19, (IntKind.wrap .i64 (to15 + 1), s27)), h, (Weak.norm (m := 4) (Nat.le_of_ble_eq_true rfl) ⟨rfl, rfl, rfl, rfl, rfl, trivial⟩ rfl rfl rfl), Nat.lt_succ_self _⟩
  · replace h := bif_f hb26 h
    refine AW.exit ?_
    refine AW.seq ?_
    refine AW.seq ?_
    refine AW.reg hS [(0, as_ s1), (3, .ref 2 0), (4, .ref 3 0), (5, ai to15), (6, as_ marks16), (26, ab (decide (to15 = xat2)))] [.row 32 4 (List.map Token.pv l7) true, .row 9 1 (List.map PV.str l8) true, .var [ai xat2, .vec 0 l7.length, ai xend3, ab xname4, .vec 1 l8.length, ai xe5, ai xoff6], .var [ai 0, .nils, ai 0, ab false, .nils, ai 0, ai 0]] ?_ ?_
    · simp -implicitDefEqProofs only [RUNS, qindex, Nat.reduceAdd, Nat.reduceLeDiff, Nat.reduceSub, reduceIte, Nat.reduceEqDiff, Nat.reduceLT, reduceCtorEq, Nat.reduceMul, Nat.reduceBEq, Int.reduceEq, if_true, if_false, eq_self, ne_eq, env_bT, T_3, T_42, Token.pv_eq, Part.pv_eq, eqT_3]
    refine AW.cond (b := decide (to15 = xat2)) rfl (fun hb30 => ?_) (fun hb30 => ?_)
    · replace h := bif_t hb30 h
      refine AW.seq ?_
      replace h := Option.bind_eq_some_iff.1 h; obtain ⟨⟨at31, end32, name33, e34, off35⟩, q36, h⟩ := h
      dsimp only at h
      have f37 := c_F19 xat2 xend3 xname4 xe5 xoff6 47 xat2 l7 l8 at31 end32 name33 e34 off35 q36
      try dsimp only at f37
      have e38 : ecall O [.row 32 4 (List.map Token.pv l7) true, .row 9 1 (List.map PV.str l8) true, .var [ai xat2, .vec 0 l7.length, ai xend3, ab xname4, .vec 1 l8.length, ai xe5, ai xoff6], .var [ai 0, .nils, ai 0, ab false, .nils, ai 0, ai 0]] 19 [.agg [ai xat2, .vec 0 l7.length, ai xend3, ab xname4, .vec 1 l8.length, ai xe5, ai xoff6], ai 47, ai xat2] = some (retAV [.agg [ai at31, .vec 0 l7.length, ai end32, ab name33, .vec 1 l8.length, ai e34, ai off35]], [.row 32 4 (List.map Token.pv l7) true, .row 9 1 (List.map PV.str l8) true, .var [ai xat2, .vec 0 l7.length, ai xend3, ab xname4, .vec 1 l8.length, ai xe5, ai xoff6], .var [ai 0, .nils, ai 0, ab false, .nils, ai 0, ai 0]]) := ecall_eq rfl rfl rfl f37 rfl rfl rfl
      refine AW.reg hS [(4, .ref 3 0)] [.row 32 4 (List.map Token.pv l7) true, .row 9 1 (List.map PV.str l8) true, .var [ai xat2, .vec 0 l7.length, ai xend3, ab xname4, .vec 1 l8.length, ai xe5, ai xoff6], .var [ai at31, .vec 0 l7.length, ai end32, ab name33, .vec 1 l8.length, ai e34, ai off35]] ?_ ?_
      · simp -implicitDefEqProofs only [RUNS, qindex, Nat.reduceAdd, Nat.reduceLeDiff, Nat.reduceSub, reduceIte, Nat.reduceEqDiff, Nat.reduceLT, reduceCtorEq, Nat.reduceMul, Nat.reduceBEq, Int.reduceEq, if_true, if_false, eq_self, ne_eq, env_bT, T_3, T_24, T_42, Token.pv_eq, Part.pv_eq, pf_19, e38]
      refine AW.ret ?_
      cases h
      show finish _ _ _ _ _ = _
      first | rfl | (simp [finish, resOf, renArgs, toPV, selObjs, sl])
    · replace h := bif_f hb30 h
      refine AW.skip ?_
      refine AW.seq ?_
      replace h := Option.bind_eq_some_iff.1 h; obtain ⟨t39, q40, h⟩ := h
      have f41 := sslice_f q40
      have f41e := f41.2.2.2.2
      try simp only [Int.toNat_natCast, Int.toNat_zero, List.drop_zero] at f41e
      have f41l := f41.2.2.1
      try simp only [Int.toNat_natCast, Int.toNat_zero] at f41l
      replace h := Option.bind_eq_some_iff.1 h; obtain ⟨⟨at42, end43, name44, e45, off46, o47⟩, q48, h⟩ := h
      dsimp only at h
      have f49 := c_F35 xat2 xend3 xname4 xe5 xoff6 (Token.mk 1 xat2 t39 marks16) l7 l8 at42 end43 name44 e45 off46 o47 q48
      try dsimp only at f49
      have e50 : ecall O [.row 32 4 (List.map Token.pv l7) true, .row 9 1 (List.map PV.str l8) true, .var [ai xat2, .vec 0 l7.length, ai xend3, ab xname4, .vec 1 l8.length, ai xe5, ai xoff6], .var [ai 0, .nils, ai 0, ab false, .nils, ai 0, ai 0]] 35 [.agg [ai xat2, .vec 0 l7.length, ai xend3, ab xname4, .vec 1 l8.length, ai xe5, ai xoff6], .pv (.agg [.int .i64 1, .int .i64 xat2, .str t39, .str marks16])] = some (retAV [.agg [ai at42, .vec 0 o47.length, ai end43, ab name44, .vec 1 l8.length, ai e45, ai off46]], [.row 32 4 (List.map Token.pv o47) true, .row 9 1 (List.map PV.str l8) true, .var [ai xat2, .vec 0 l7.length, ai xend3, ab xname4, .vec 1 l8.length, ai xe5, ai xoff6], .var [ai 0, .nils, ai 0, ab false, .nils, ai 0, ai 0]]) := ecall_eq rfl rfl rfl f49 rfl rfl rfl
      refine AW.dregB mixed hS [(3, some 2), (32, some 2), (35, some 2)] rfl (hpf ▸ (by kernel_rfl : orderOKB pfn [(3, some 2), (32, some 2), (35, some 2)] _ = true)) [(3, .ref 2 0), (4, .ref 3 0), (5, ai to15)] [.row 32 4 (List.map Token.pv o47) true, .row 9 1 (List.map PV.str l8) true, .var [ai at42, .vec 0 o47.length, ai end43, ab name44, .vec 1 l8.length, ai e45, ai off46], .var [ai 0, .nils, ai 0, ab false, .nils, ai 0, ai 0]] ?_ ?_
      · simp -implicitDefEqProofs only [RUNS, qindex, Nat.reduceAdd, Nat.reduceLeDiff, Nat.reduceSub, reduceIte, Nat.reduceEqDiff, Nat.reduceLT, reduceCtorEq, Nat.reduceMul, Nat.reduceBEq, Int.reduceEq, if_true, if_false, eq_self, ne_eq, env_bT, T_3, T_9, T_32, T_42, Token.pv_eq, Part.pv_eq, f41.1, f41.2.1, f41l, f41.2.2.2.1, f41e, Int.toNat_natCast, Int.toNat_zero, ownT_32, pf_35, e50]
      refine AW.seq ?_
      refine AW.reg hS [(3, .ref 2 0), (4, .ref 3 0), (5, ai to15)] [.row 32 4 (List.map Token.pv o47) true, .row 9 1 (List.map PV.str l8) true, .var [ai to15, .vec 0 o47.length, ai end43, ab name44, .vec 1 l8.length, ai e45, ai off46], .var [ai 0, .nils, ai 0, ab false, .nils, ai 0, ai 0]] ?_ ?_
      · simp -implicitDefEqProofs only [RUNS, qindex, Nat.reduceAdd, Nat.reduceLeDiff, Nat.reduceSub, reduceIte, Nat.reduceEqDiff, Nat.reduceLT, reduceCtorEq, Nat.reduceMul, Nat.reduceBEq, Int.reduceEq, if_true, if_false, eq_self, ne_eq, env_bT, T_3, T_42, Token.pv_eq, Part.pv_eq]
      refine AW.seq ?_
      refine AW.reg hS [(3, .ref 2 0), (4, .ref 3 0)] [.row 32 4 (List.map Token.pv o47) true, .row 9 1 (List.map PV.str l8) true, .var [ai to15, .vec 0 o47.length, ai to15, ab name44, .vec 1 l8.length, ai e45, ai off46], .var [ai 0, .nils, ai 0, ab false, .nils, ai 0, ai 0]] ?_ ?_
      · simp -implicitDefEqProofs only [RUNS, qindex, Nat.reduceAdd, Nat.reduceLeDiff, Nat.reduceSub, reduceIte, Nat.reduceEqDiff, Nat.reduceLT, reduceCtorEq, Nat.reduceMul, Nat.reduceBEq, Int.reduceEq, if_true, if_false, eq_self, ne_eq, env_bT, T_3, T_42, Token.pv_eq, Part.pv_eq]
      refine AW.seq ?_
      refine AW.reg hS [(3, .ref 2 0), (4, .ref 3 0)] [.row 32 4 (List.map Token.pv o47) true, .row 9 1 (List.map PV.str l8) true, .var [ai to15, .vec 0 o47.length, ai to15, ab false, .vec 1 l8.length, ai e45, ai off46], .var [ai 0, .nils, ai 0, ab false, .nils, ai 0, ai 0]] ?_ ?_
      · simp -implicitDefEqProofs only [RUNS, qindex, Nat.reduceAdd, Nat.reduceLeDiff, Nat.reduceSub, reduceIte, Nat.reduceEqDiff, Nat.reduceLT, reduceCtorEq, Nat.reduceMul, Nat.reduceBEq, Int.reduceEq, if_true, if_false, eq_self, ne_eq, env_bT, T_4, T_42, Token.pv_eq, Part.pv_eq]
      refine AW.seq ?_
      refine AW.reg hS [(4, .ref 3 0)] [.row 32 4 (List.map Token.pv o47) true, .row 9 1 (List.map PV.str l8) true, .var [ai to15, .vec 0 o47.length, ai to15, ab false, .vec 1 l8.length, ai e45, ai off46], .var [ai to15, .vec 0 o47.length, ai to15, ab false, .vec 1 l8.length, ai e45, ai off46]] ?_ ?_
      · simp -implicitDefEqProofs only [RUNS, qindex, Nat.reduceAdd, Nat.reduceLeDiff, Nat.reduceSub, reduceIte, Nat.reduceEqDiff, Nat.reduceLT, reduceCtorEq, Nat.reduceMul, Nat.reduceBEq, Int.reduceEq, if_true, if_false, eq_self, ne_eq, env_bT, T_42, Token.pv_eq, Part.pv_eq]
      refine AW.ret ?_
      cases h
      show finish _ _ _ _ _ = _
      first | rfl | (simp [finish, resOf, renArgs, toPV, selObjs, sl])

set_option maxHeartbeats 4000000 in
theorem g_F34 {O : Orc} (hS : Sound env O) (hpf : O.pf = pfn) (s1 : Str) (at2 : Int) (r3 : Int) (h : F34 s1 at2 = some r3) : Good env 34 [as_ s1, ai at2] [] [ai r3] [] := by
  refine Good.start (fn := Tryz.f34) (N := 39) fn_34 rfl rfl (by simp) [] _ rfl rfl ?_
  rw [F34] at h
  refine AW.seq ?_
  refine AW.reg hS [(0, as_ s1), (1, ai at2)] [] ?_ ?_
  · simp -implicitDefEqProofs only [RUNS, qindex, Nat.reduceAdd, Nat.reduceLeDiff, Nat.reduceSub, reduceIte, Nat.reduceEqDiff, Nat.reduceLT, reduceCtorEq, Nat.reduceMul, Nat.reduceBEq, Int.reduceEq, if_true, if_false, eq_self, ne_eq, env_bT, Token.pv_eq, Part.pv_eq]
  refine AW.seq ?_
  refine AW.seq ?_
  replace h := Option.bind_eq_some_iff.1 h; obtain ⟨c4, q5, h⟩ := h
  have f6 := sidx_g (guardO_t q5)
  refine AW.reg hS [(0, as_ s1), (1, ai at2), (20, ab (decide (at2 < (s1.length : Int)) && (decide (c4 = 32) || decide (c4 = 9))))] [] ?_ ?_
  · clear h
    (simp -implicitDefEqProofs only [RUNS, qindex, Nat.reduceAdd, Nat.reduceLeDiff, Nat.reduceSub, reduceIte, Nat.reduceEqDiff, Nat.reduceLT, reduceCtorEq, Nat.reduceMul, Nat.reduceBEq, Int.reduceEq, if_true, if_false, eq_self, ne_eq, env_bT, T_3, T_5, T_9, Token.pv_eq, Part.pv_eq, eqT_3, f6.1, f6.2.1, f6.2.2, eqT_5]); repeat' (split <;> rename_i hb <;> (try simp only [HBS, ge_iff_le, gt_iff_lt] at hb) <;> simp -implicitDefEqProofs only [RUNS, qindex, Nat.reduceAdd, Nat.reduceLeDiff, Nat.reduceSub, reduceIte, Nat.reduceEqDiff, Nat.reduceLT, reduceCtorEq, Nat.reduceMul, Nat.reduceBEq, Int.reduceEq, if_true, if_false, eq_self, ne_eq, env_bT, T_3, T_5, T_9, Token.pv_eq, Part.pv_eq, eqT_3, f6.1, f6.2.1, f6.2.2, eqT_5, *, decide_true, decide_false, Decidable.not_not, not_false_eq_true, not_true_eq_false])
    all_goals (first | (simp only [BOOLS]; done) | (simp [*]; done) | ((try simp only [CLOS, beq_iff_eq, bne_iff_ne, ne_eq] at *) <;> omega) | (simp_all; done) | (simp_all <;> omega))
  refine AW.cond (b := (decide (at2 < (s1.length : Int)) && (decide (c4 = 32) || decide (c4 = 9)))) rfl (fun hb7 => ?_) (fun hb7 => ?_)
  · replace h := bif_t hb7 h
    refine AW.seq ?_
    refine AW.reg hS [(4, ai 1)] [] ?_ ?_
    · simp -implicitDefEqProofs only [RUNS, qindex, Nat.reduceAdd, Nat.reduceLeDiff, Nat.reduceSub, reduceIte, Nat.reduceEqDiff, Nat.reduceLT, reduceCtorEq, Nat.reduceMul, Nat.reduceBEq, Int.reduceEq, if_true, if_false, eq_self, ne_eq, env_bT, Token.pv_eq, Part.pv_eq]
    refine AW.ret ?_
    cases h
    show finish _ _ _ _ _ = _
    first | rfl | (simp [finish, resOf, renArgs, toPV, selObjs, sl])
  · replace h := bif_f hb7 h
    refine AW.skip ?_
    refine AW.seq ?_
    refine AW.seq ?_
    replace h := Option.bind_eq_some_iff.1 h; obtain ⟨c8, q9, h⟩ := h
    have f10 := sidx_g (guardO_t q9)
    replace h := Option.bind_eq_some_iff.1 h; obtain ⟨c11, q12, h⟩ := h
    have f13 := sidx_g (guardO_t q12)
    refine AW.reg hS [(38, ab ((decide (IntKind.wrap .i64 (at2 + 1) < (s1.length : Int)) && decide (c8 = 92)) && decide (c11 = 10)))] [] ?_ ?_
    · clear h
      (simp -implicitDefEqProofs only [RUNS, qindex, Nat.reduceAdd, Nat.reduceLeDiff, Nat.reduceSub, reduceIte, Nat.reduceEqDiff, Nat.reduceLT, reduceCtorEq, Nat.reduceMul, Nat.reduceBEq, Int.reduceEq, if_true, if_false, eq_self, ne_eq, env_bT, T_3, T_5, T_9, Token.pv_eq, Part.pv_eq, eqT_3, f10.1, f10.2.1, f10.2.2, eqT_5, f13.1, f13.2.1, f13.2.2]); repeat' (split <;> rename_i hb <;> (try simp only [HBS, ge_iff_le, gt_iff_lt] at hb) <;> simp -implicitDefEqProofs only [RUNS, qindex, Nat.reduceAdd, Nat.reduceLeDiff, Nat.reduceSub, reduceIte, Nat.reduceEqDiff, Nat.reduceLT, reduceCtorEq, Nat.reduceMul, Nat.reduceBEq, Int.reduceEq, if_true, if_false, eq_self, ne_eq, env_bT, T_3, T_5, T_9, Token.pv_eq, Part.pv_eq, eqT_3, f10.1, f10.2.1, f10.2.2, eqT_5, f13.1, f13.2.1, f13.2.2, *, decide_true, decide_false, Decidable.not_not, not_false_eq_true, not_true_eq_false])
      all_goals (first | (simp only [BOOLS]; done) | (simp [*]; done) | ((try simp only [CLOS, beq_iff_eq, bne_iff_ne, ne_eq] at *) <;> omega) | (simp_all; done) | (simp_all <;> omega))
    refine AW.cond (b := ((decide (IntKind.wrap .i64 (at2 + 1) < (s1.length : Int)) && decide (c8 = 92)) && decide (c11 = 10))) rfl (fun hb14 => ?_) (fun hb14 => ?_)
    · replace h := bif_t hb14 h
      refine AW.seq ?_
      refine AW.reg hS [(4, ai 2)] [] ?_ ?_
      · simp -implicitDefEqProofs only [RUNS, qindex, Nat.reduceAdd, Nat.reduceLeDiff, Nat.reduceSub, reduceIte, Nat.reduceEqDiff, Nat.reduceLT, reduceCtorEq, Nat.reduceMul, Nat.reduceBEq, Int.reduceEq, if_true, if_false, eq_self, ne_eq, env_bT, Token.pv_eq, Part.pv_eq]
      refine AW.ret ?_
      cases h
      show finish _ _ _ _ _ = _
      first | rfl | (simp [finish, resOf, renArgs, toPV, selObjs, sl])
    · replace h := bif_f hb14 h
      refine AW.skip ?_
      refine AW.seq ?_
      refine AW.reg hS [(4, ai 0)] [] ?_ ?_
      · simp -implicitDefEqProofs only [RUNS, qindex, Nat.reduceAdd, Nat.reduceLeDiff, Nat.reduceSub, reduceIte, Nat.reduceEqDiff, Nat.reduceLT, reduceCtorEq, Nat.reduceMul, Nat.reduceBEq, Int.reduceEq, if_true, if_false, eq_self, ne_eq, env_bT, Token.pv_eq, Part.pv_eq]
      refine AW.ret ?_
      cases h
      show finish _ _ _ _ _ = _
      first | rfl | (simp [finish, resOf, renArgs, toPV, selObjs, sl])

set_option maxHeartbeats 4000000 in
theorem g_F54 {O : Orc} (hS : Sound env O) (hpf : O.pf = pfn) (s1 : Str) (at2 : Int) (end3 : Str) (r4 : Str) (r5 : Int) (r6 : Int) (h : F54 s1 at2 end3 = some (r4, r5, r6)) : Good env 54 [as_ s1, ai at2, as_ end3] [] [as_ r4, ai r5, ai r6] [] := by
  refine Good.start (fn := Tryz.f54) (N := 54) fn_54 rfl rfl (by simp) [] _ rfl rfl ?_
  rw [F54] at h
  refine AW.seq ?_
  refine AW.reg hS [(0, as_ s1), (1, ai at2), (2, as_ end3)] [] ?_ ?_
  · simp -implicitDefEqProofs only [RUNS, qindex, Nat.reduceAdd, Nat.reduceLeDiff, Nat.reduceSub, reduceIte, Nat.reduceEqDiff, Nat.reduceLT, reduceCtorEq, Nat.reduceMul, Nat.reduceBEq, Int.reduceEq, if_true, if_false, eq_self, ne_eq, env_bT, Token.pv_eq, Part.pv_eq]
  refine AW.seq ?_
  refine AW.seq ?_
  refine AW.reg hS [(0, as_ s1), (1, ai at2), (2, as_ end3), (18, ab (decide (at2 < 0) || decide ((s1.length : Int) < at2)))] [] ?_ ?_
  · clear h
    (simp -implicitDefEqProofs only [RUNS, qindex, Nat.reduceAdd, Nat.reduceLeDiff, Nat.reduceSub, reduceIte, Nat.reduceEqDiff, Nat.reduceLT, reduceCtorEq, Nat.reduceMul, Nat.reduceBEq, Int.reduceEq, if_true, if_false, eq_self, ne_eq, env_bT, T_3, T_9, Token.pv_eq, Part.pv_eq, eqT_3]); repeat' (split <;> rename_i hb <;> (try simp only [HBS, ge_iff_le, gt_iff_lt] at hb) <;> simp -implicitDefEqProofs only [RUNS, qindex, Nat.reduceAdd, Nat.reduceLeDiff, Nat.reduceSub, reduceIte, Nat.reduceEqDiff, Nat.reduceLT, reduceCtorEq, Nat.reduceMul, Nat.reduceBEq, Int.reduceEq, if_true, if_false, eq_self, ne_eq, env_bT, T_3, T_9, Token.pv_eq, Part.pv_eq, eqT_3, *, decide_true, decide_false, Decidable.not_not, not_false_eq_true, not_true_eq_false])
    all_goals (first | (simp only [BOOLS]; done) | (simp [*]; done) | ((try simp only [CLOS, beq_iff_eq, bne_iff_ne, ne_eq] at *) <;> omega) | (simp_all; done) | (simp_all <;> omega))
  refine AW.cond (b := (decide (at2 < 0) || decide ((s1.length : Int) < at2))) rfl (fun hb7 => ?_) (fun hb7 => ?_)
  · replace h := bif_t hb7 h
    refine AW.seq ?_
    refine AW.reg hS [(6, as_ []), (7, ai 0), (8, ai 1)] [] ?_ ?_
    · simp -implicitDefEqProofs only [RUNS, qindex, Nat.reduceAdd, Nat.reduceLeDiff, Nat.reduceSub, reduceIte, Nat.reduceEqDiff, Nat.reduceLT, reduceCtorEq, Nat.reduceMul, Nat.reduceBEq, Int.reduceEq, if_true, if_false, eq_self, ne_eq, env_bT, Token.pv_eq, Part.pv_eq]
    refine AW.ret ?_
    cases h
    show finish _ _ _ _ _ = _
    first | rfl | (simp [finish, resOf, renArgs, toPV, selObjs, sl])
  · replace h := bif_f hb7 h
    refine AW.skip ?_
    refine AW.seq ?_
    refine AW.reg hS [(0, as_ s1), (1, ai at2), (2, as_ end3), (9, ai at2)] [] ?_ ?_
    · simp -implicitDefEqProofs only [RUNS, qindex, Nat.reduceAdd, Nat.reduceLeDiff, Nat.reduceSub, reduceIte, Nat.reduceEqDiff, Nat.reduceLT, reduceCtorEq, Nat.reduceMul, Nat.reduceBEq, Int.reduceEq, if_true, if_false, eq_self, ne_eq, env_bT, Token.pv_eq, Part.pv_eq]
    refine AW.seq ?_
    refine AW.block ?_
    refine AW.weak (Weak.slots (L := [(0, as_ s1), (1, ai at2), (2, as_ end3), (9, ai at2)]) ⟨rfl, rfl, rfl, rfl, trivial⟩) ?_
    refine AW.loopI (α := Nat × Int) (fun (_, from8) => ⟨sl [(0, as_ s1), (1, ai at2), (2, as_ end3), (9, ai from8)], 54, []⟩) (fun x => iter (F54_b2 s1 end3 at2) x.1 x.2 = some (r4, r5, r6)) (fun x => x.1) (BIG, at2) h ?_
    clear h
    intro ⟨n29, from8⟩ h
    replace h := iter_some h; obtain ⟨m11, rfl, h⟩ := h
    rw [F54_b2] at h
    try dsimp only at h
    show AW _ _ _ _ ⟨sl [(0, as_ s1), (1, ai at2), (2, as_ end3), (9, ai from8)], 54, []⟩
    refine AW.seq ?_
    refine AW.seq ?_
    refine AW.reg hS [(0, as_ s1), (1, ai at2), (2, as_ end3), (9, ai from8), (23, ab (decide (from8 < (s1.length : Int))))] [] ?_ ?_
    · simp -implicitDefEqProofs only [RUNS, qindex, Nat.reduceAdd, Nat.reduceLeDiff, Nat.reduceSub, reduceIte, Nat.reduceEqDiff, Nat.reduceLT, reduceCtorEq, Nat.reduceMul, Nat.reduceBEq, Int.reduceEq, if_true, if_false, eq_self, ne_eq, env_bT, T_3, T_9, Token.pv_eq, Part.pv_eq, eqT_3]
    refine AW.cond (b := decide (from8 < (s1.length : Int))) rfl (fun hb12 => ?_) (fun hb12 => ?_)
    · replace h := bif_t hb12 h
      refine AW.skip ?_
      refine AW.block ?_
      refine AW.seq ?_
      refine AW.reg hS [(0, as_ s1), (1, ai at2), (2, as_ end3), (9, ai from8), (10, ai from8)] [] ?_ ?_
      · simp -implicitDefEqProofs only [RUNS, qindex, Nat.reduceAdd, Nat.reduceLeDiff, Nat.reduceSub, reduceIte, Nat.reduceEqDiff, Nat.reduceLT, reduceCtorEq, Nat.reduceMul, Nat.reduceBEq, Int.reduceEq, if_true, if_false, eq_self, ne_eq, env_bT, Token.pv_eq, Part.pv_eq]
      refine AW.seq ?_
      refine AW.block ?_
      refine AW.weak (Weak.slots (L := [(0, as_ s1), (1, ai at2), (2, as_ end3), (9, ai from8), (10, ai from8)]) ⟨rfl, rfl, rfl, rfl, rfl, trivial⟩) ?_
      refine AW.loopI (α := Nat × Int) (fun (_, to13) => ⟨sl [(0, as_ s1), (1, ai at2), (2, as_ end3), (9, ai from8), (10, ai to13)], 54, []⟩) (fun x => iter (F54_b3 s1 from8 end3 at2 (iter (F54_b2 s1 end3 at2) m11)) x.1 x.2 = some (r4, r5, r6)) (fun x => x.1) (BIG, from8) h ?_
      clear h
      intro ⟨n28, to13⟩ h
      replace h := iter_some h; obtain ⟨m16, rfl, h⟩ := h
      rw [F54_b3] at h
      try dsimp only at h
      show AW _ _ _ _ ⟨sl [(0, as_ s1), (1, ai at2), (2, as_ end3), (9, ai from8), (10, ai to13)], 54, []⟩
      refine AW.seq ?_
      refine AW.seq ?_
      replace h := Option.bind_eq_some_iff.1 h; obtain ⟨c17, q18, h⟩ := h
      have f19 := sidx_g (guardO_t q18)
      refine AW.reg hS [(0, as_ s1), (1, ai at2), (2, as_ end3), (9, ai from8), (10, ai to13), (34, ab (decide (to13 < (s1.length : Int)) && !decide (c17 = 10)))] [] ?_ ?_
      · clear h
        (simp -implicitDefEqProofs only [RUNS, qindex, Nat.reduceAdd, Nat.reduceLeDiff, Nat.reduceSub, reduceIte, Nat.reduceEqDiff, Nat.reduceLT, reduceCtorEq, Nat.reduceMul, Nat.reduceBEq, Int.reduceEq, if_true, if_false, eq_self, ne_eq, env_bT, T_3, T_5, T_9, Token.pv_eq, Part.pv_eq, eqT_3, f19.1, f19.2.1, f19.2.2, eqT_5]); repeat' (split <;> rename_i hb <;> (try simp only [HBS, ge_iff_le, gt_iff_lt] at hb) <;> simp -implicitDefEqProofs only [RUNS, qindex, Nat.reduceAdd, Nat.reduceLeDiff, Nat.reduceSub, reduceIte, Nat.reduceEqDiff, Nat.reduceLT, reduceCtorEq, Nat.reduceMul, Nat.reduceBEq, Int.reduceEq, if_true, if_false, eq_self, ne_eq, env_bT, T_3, T_5, T_9, Token.pv_eq, Part.pv_eq, eqT_3, f19.1, f19.2.1, f19.2.2, eqT_5, *, decide_true, decide_false, Decidable.not_not, not_false_eq_true, not_true_eq_false])
        all_goals (first | (simp only [BOOLS]; done) | (simp [*]; done) | ((try simp only [CLOS, beq_iff_eq, bne_iff_ne, ne_eq] at *) <;> omega) | (simp_all; done) | (simp_all <;> omega))
      refine AW.cond (b := (decide (to13 < (s1.length : Int)) && !decide (c17 = 10))) rfl (fun hb20 => ?_) (fun hb20 => ?_)
      · replace h := bif_t hb20 h
        refine AW.skip ?_
        refine AW.block ?_
        refine AW.reg hS [(0, as_ s1), (1, ai at2), (2, as_ end3), (9, ai from8), (10, ai (IntKind.wrap .i64 (to13 + 1)))] [] ?_ ?_
        · simp -implicitDefEqProofs only [RUNS, qindex, Nat.reduceAdd, Nat.reduceLeDiff, Nat.reduceSub, reduceIte, Nat.reduceEqDiff, Nat.reduceLT, reduceCtorEq, Nat.reduceMul, Nat.reduceBEq, Int.reduceEq, if_true, if_false, eq_self, ne_eq, env_bT, T_3, Token.pv_eq, Part.pv_eq, eqT_3]
        exact ⟨(m16, IntKind.wrap .i64 (to13 + 1)), h, (Weak.norm (m := 0) (Nat.le_of_ble_eq_true rfl) ⟨rfl, rfl, rfl, rfl, rfl, trivial⟩ rfl rfl rfl), Nat.lt_succ_self _⟩
      · replace h := bif_f hb20 h
        refine AW.exit ?_
        refine AW.seq ?_
        refine AW.seq ?_
        replace h := Option.bind_eq_some_iff.1 h; obtain ⟨t21, q22, h⟩ := h
        have f23 := sslice_f q22
        have f23e := f23.2.2.2.2
        try simp only [Int.toNat_natCast, Int.toNat_zero, List.drop_zero] at f23e
        have f23l := f23.2.2.1
        try simp only [Int.toNat_natCast, Int.toNat_zero] at f23l
        refine AW.reg hS [(0, as_ s1), (1, ai at2), (2, as_ end3), (9, ai from8), (10, ai to13), (42, ab (decide (t21 = end3)))] [] ?_ ?_
        · simp -implicitDefEqProofs only [RUNS, qindex, Nat.reduceAdd, Nat.reduceLeDiff, Nat.reduceSub, reduceIte, Nat.reduceEqDiff, Nat.reduceLT, reduceCtorEq, Nat.reduceMul, Nat.reduceBEq, Int.reduceEq, if_true, if_false, eq_self, ne_eq, env_bT, T_9, Token.pv_eq, Part.pv_eq, f23.1, f23.2.1, f23l, f23.2.2.2.1, f23e, Int.toNat_natCast, Int.toNat_zero, eqT_9]
        refine AW.cond (b := decide (t21 = end3)) rfl (fun hb24 => ?_) (fun hb24 => ?_)
        · replace h := bif_t hb24 h
          refine AW.seq ?_
          replace h := Option.bind_eq_some_iff.1 h; obtain ⟨t25, q26, h⟩ := h
          have f27 := sslice_f q26
          have f27e := f27.2.2.2.2
          try simp only [Int.toNat_natCast, Int.toNat_zero, List.drop_zero] at f27e
          have f27l := f27.2.2.1
          try simp only [Int.toNat_natCast, Int.toNat_zero] at f27l
          refine AW.reg hS [(6, as_ t25), (7, ai (imin (IntKind.wrap .i64 (to13 + 1)) (s1.length : Int))), (8, ai 0)] [] ?_ ?_
          · simp -implicitDefEqProofs only [RUNS, qindex, Nat.reduceAdd, Nat.reduceLeDiff, Nat.reduceSub, reduceIte, Nat.reduceEqDiff, Nat.reduceLT, reduceCtorEq, Nat.reduceMul, Nat.reduceBEq, Int.reduceEq, if_true, if_false, eq_self, ne_eq, env_bT, T_3, T_9, Token.pv_eq, Part.pv_eq, f27.1, f27.2.1, f27l, f27.2.2.2.1, f27e, Int.toNat_natCast, Int.toNat_zero, eqT_3]
          refine AW.ret ?_
          cases h
          show finish _ _ _ _ _ = _
          first | rfl | (simp [finish, resOf, renArgs, toPV, selObjs, sl])
        · replace h := bif_f hb24 h
          refine AW.skip ?_
          refine AW.reg hS [(0, as_ s1), (1, ai at2), (2, as_ end3), (9, ai (IntKind.wrap .i64 (to13 + 1)))] [] ?_ ?_
          · simp -implicitDefEqProofs only [RUNS, qindex, Nat.reduceAdd, Nat.reduceLeDiff, Nat.reduceSub, reduceIte, Nat.reduceEqDiff, Nat.reduceLT, reduceCtorEq, Nat.reduceMul, Nat.reduceBEq, Int.reduceEq, if_true, if_false, eq_self, ne_eq, env_bT, T_3, Token.pv_eq, Part.pv_eq, eqT_3]
          exact ⟨(m11, IntKind.wrap .i64 (to13 + 1)), h, (Weak.norm (m := 0) (Nat.le_of_ble_eq_true rfl) ⟨rfl, rfl, rfl, rfl, trivial⟩ rfl rfl rfl), Nat.lt_succ_self _⟩
    · replace h := bif_f hb12 h
      refine AW.exit ?_
      refine AW.seq ?_
      refine AW.reg hS [(6, as_ []), (7, ai 0), (8, ai 3)] [] ?_ ?_
      · simp -implicitDefEqProofs only [RUNS, qindex, Nat.reduceAdd, Nat.reduceLeDiff, Nat.reduceSub, reduceIte, Nat.reduceEqDiff, Nat.reduceLT, reduceCtorEq, Nat.reduceMul, Nat.reduceBEq, Int.reduceEq, if_true, if_false, eq_self, ne_eq, env_bT, Token.pv_eq, Part.pv_eq]
      refine AW.ret ?_
      cases h
      show finish _ _ _ _ _ = _
      first | rfl | (simp [finish, resOf, renArgs, toPV, selObjs, sl])

set_option maxHeartbeats 4000000 in
theorem g_F36 {O : Orc} (hS : Sound env O) (hpf : O.pf = pfn) (c_F54 : C_F54 O) (c_F19 : C_F19 O) (s1 : Str) (xat2 : Int) (xend3 : Int) (xname4 : Bool) (xe5 : Int) (xoff6 : Int) (l7 : List Token) (l8 : List Str) (at9 : Int) (end10 : Int) (name11 : Bool) (e12 : Int) (off13 : Int) (h : F36 s1 xat2 xend3 xname4 xe5 xoff6 l7 l8 = some (at9, end10, name11, e12, off13)) : Good env 36 [as_ s1, .agg [ai xat2, .vec 0 l7.length, ai xend3, ab xname4, .vec 1 l8.length, ai xe5, ai xoff6]] [.row 32 4 (List.map Token.pv l7) true, .row 9 1 (List.map PV.str l8) true] [.agg [ai at9, .vec 0 l7.length, ai end10, ab name11, .nils, ai e12, ai off13]] [.row 32 4 (List.map Token.pv l7) true, .row 9 1 (List.map PV.str l8) true] := by
  have pf_19 : O.pf 19 = false := by rw [hpf]; rfl
  have pf_54 : O.pf 54 = true := by rw [hpf]; rfl
  refine Good.start (fn := Tryz.f36) (N := 45) fn_36 rfl rfl (by simp) [] _ rfl rfl ?_
  rw [F36] at h
  refine AW.seq ?_
  refine AW.reg hS [(0, as_ s1), (3, .ref 2 0), (4, .ref 3 0)] [.row 32 4 (List.map Token.pv l7) true, .row 9 1 (List.map PV.str l8) true, .var [ai xat2, .vec 0 l7.length, ai xend3, ab xname4, .vec 1 l8.length, ai xe5, ai xoff6], .var [ai 0, .nils, ai 0, ab false, .nils, ai 0, ai 0]] ?_ ?_
  · simp -implicitDefEqProofs only [RUNS, qindex, Nat.reduceAdd, Nat.reduceLeDiff, Nat.reduceSub, reduceIte, Nat.reduceEqDiff, Nat.reduceLT, reduceCtorEq, Nat.reduceMul, Nat.reduceBEq, Int.reduceEq, if_true, if_false, eq_self, ne_eq, env_bT, T_42, Token.pv_eq, Part.pv_eq]
  refine AW.seq ?_
  refine AW.seq ?_
  refine AW.reg hS [(0, as_ s1), (3, .ref 2 0), (4, .ref 3 0), (5, ai 0)] [.row 32 4 (List.map Token.pv l7) true, .row 9 1 (List.map PV.str l8) true, .var [ai xat2, .vec 0 l7.length, ai xend3, ab xname4, .vec 1 l8.length, ai xe5, ai xoff6], .var [ai 0, .nils, ai 0, ab false, .nils, ai 0, ai 0]] ?_ ?_
  · simp -implicitDefEqProofs only [RUNS, qindex, Nat.reduceAdd, Nat.reduceLeDiff, Nat.reduceSub, reduceIte, Nat.reduceEqDiff, Nat.reduceLT, reduceCtorEq, Nat.reduceMul, Nat.reduceBEq, Int.reduceEq, if_true, if_false, eq_self, ne_eq, env_bT, Token.pv_eq, Part.pv_eq]
  refine AW.block ?_
  refine AW.weak (Weak.slots (L := [(0, as_ s1), (3, .ref 2 0), (4, .ref 3 0), (5, ai 0)]) ⟨rfl, rfl, rfl, rfl, trivial⟩) ?_
  refine AW.loopI (α := Nat × Int × Int × Int × Bool × Int × Int) (fun (_, i14, x15, x16, x17, x18, x19) => ⟨sl [(0, as_ s1), (3, .ref 2 0), (4, .ref 3 0), (5, ai i14)], 45, [.row 32 4 (List.map Token.pv l7) true, .row 9 1 (List.map PV.str l8) true, .var [ai x15, .vec 0 l7.length, ai x16, ab x17, .vec 1 l8.length, ai x18, ai x19], .var [ai 0, .nils, ai 0, ab false, .nils, ai 0, ai 0]]⟩) (fun x => iter (F36_b1 l8 s1 l7) x.1 x.2 = some (at9, end10, name11, e12, off13)) (fun x => x.1) (BIG, (0, xat2, xend3, xname4, xe5, xoff6)) h ?_
  clear h
  intro ⟨n41, i14, x15, x16, x17, x18, x19⟩ h
  replace h := iter_some h; obtain ⟨m22, rfl, h⟩ := h
  rw [F36_b1] at h
  try dsimp only at h
  show AW _ _ _ _ ⟨sl [(0, as_ s1), (3, .ref 2 0), (4, .ref 3 0), (5, ai i14)], 45, [.row 32 4 (List.map Token.pv l7) true, .row 9 1 (List.map PV.str l8) true, .var [ai x15, .vec 0 l7.length, ai x16, ab x17, .vec 1 l8.length, ai x18, ai x19], .var [ai 0, .nils, ai 0, ab false, .nils, ai 0, ai 0]]⟩
  refine AW.seq ?_
  refine AW.seq ?_
  refine AW.reg hS [(0, as_ s1), (3, .ref 2 0), (4, .ref 3 0), (5, ai i14), (18, ab (decide (i14 < (l8.length : Int)) && decide (x18 = 0)))] [.row 32 4 (List.map Token.pv l7) true, .row 9 1 (List.map PV.str l8) true, .var [ai x15, .vec 0 l7.length, ai x16, ab x17, .vec 1 l8.length, ai x18, ai x19], .var [ai 0, .nils, ai 0, ab false, .nils, ai 0, ai 0]] ?_ ?_
  · clear h
    (simp -implicitDefEqProofs only [RUNS, qindex, Nat.reduceAdd, Nat.reduceLeDiff, Nat.reduceSub, reduceIte, Nat.reduceEqDiff, Nat.reduceLT, reduceCtorEq, Nat.reduceMul, Nat.reduceBEq, Int.reduceEq, if_true, if_false, eq_self, ne_eq, env_bT, T_3, T_9, T_24, T_35, T_42, Token.pv_eq, Part.pv_eq, eqT_3, eqT_24]); repeat' (split <;> rename_i hb <;> (try simp only [HBS, ge_iff_le, gt_iff_lt] at hb) <;> simp -implicitDefEqProofs only [RUNS, qindex, Nat.reduceAdd, Nat.reduceLeDiff, Nat.reduceSub, reduceIte, Nat.reduceEqDiff, Nat.reduceLT, reduceCtorEq, Nat.reduceMul, Nat.reduceBEq, Int.reduceEq, if_true, if_false, eq_self, ne_eq, env_bT, T_3, T_9, T_24, T_35, T_42, Token.pv_eq, Part.pv_eq, eqT_3, eqT_24, *, decide_true, decide_false, Decidable.not_not, not_false_eq_true, not_true_eq_false])
    all_goals (first | (simp only [BOOLS]; done) | (simp [*]; done) | ((try simp only [CLOS, beq_iff_eq, bne_iff_ne, ne_eq] at *) <;> omega) | (simp_all; done) | (simp_all <;> omega))
  refine AW.cond (b := (decide (i14 < (l8.length : Int)) && decide (x18 = 0))) rfl (fun hb23 => ?_) (fun hb23 => ?_)
  · replace h := bif_t hb23 h
    refine AW.skip ?_
    refine AW.seq ?_
    refine AW.block ?_
    refine AW.seq ?_
    replace h := Option.bind_eq_some_iff.1 h; obtain ⟨w24, q25, h⟩ := h
    have f26 := lidx_f q25
    replace h := Option.bind_eq_some_iff.1 h; obtain ⟨⟨r27, r28, r29⟩, q30, h⟩ := h
    dsimp only at h
    have f31 := c_F54 s1 x15 w24 r27 r28 r29 q30
    try dsimp only at f31
    refine AW.dreg mixed hS (hpf ▸ (by kernel_rfl : orderOK pfn _ = true)) [(0, as_ s1), (3, .ref 2 0), (4, .ref 3 0), (5, ai i14), (7, ai r28), (8, ai r29)] [.row 32 4 (List.map Token.pv l7) true, .row 9 1 (List.map PV.str l8) true, .var [ai x15, .vec 0 l7.length, ai x16, ab x17, .vec 1 l8.length, ai x18, ai x19], .var [ai 0, .nils, ai 0, ab false, .nils, ai 0, ai 0]] ?_ ?_
    · simp -implicitDefEqProofs only [RUNS, qindex, Nat.reduceAdd, Nat.reduceLeDiff, Nat.reduceSub, reduceIte, Nat.reduceEqDiff, Nat.reduceLT, reduceCtorEq, Nat.reduceMul, Nat.reduceBEq, Int.reduceEq, if_true, if_false, eq_self, ne_eq, env_bT, T_3, T_9, T_35, T_42, Token.pv_eq, Part.pv_eq, f26.1, f26.2.1, f26.2.2, pf_54, f31]
    refine AW.seq ?_
    refine AW.reg hS [(0, as_ s1), (3, .ref 2 0), (4, .ref 3 0), (5, ai i14), (7, ai r28), (8, ai r29), (35, ab (!decide (r29 = 0)))] [.row 32 4 (List.map Token.pv l7) true, .row 9 1 (List.map PV.str l8) true, .var [ai x15, .vec 0 l7.length, ai x16, ab x17, .vec 1 l8.length, ai x18, ai x19], .var [ai 0, .nils, ai 0, ab false, .nils, ai 0, ai 0]] ?_ ?_
    · simp -implicitDefEqProofs only [RUNS, qindex, Nat.reduceAdd, Nat.reduceLeDiff, Nat.reduceSub, reduceIte, Nat.reduceEqDiff, Nat.reduceLT, reduceCtorEq, Nat.reduceMul, Nat.reduceBEq, Int.reduceEq, if_true, if_false, eq_self, ne_eq, env_bT, T_24, Token.pv_eq, Part.pv_eq, eqT_24]
    refine AW.cond (b := !decide (r29 = 0)) rfl (fun hb32 => ?_) (fun hb32 => ?_)
    · replace h := bif_t hb32 h
      replace h := Option.bind_eq_some_iff.1 h; obtain ⟨⟨at33, end34, name35, e36, off37⟩, q38, h⟩ := h
      dsimp only at h
      have f39 := c_F19 x15 x16 x17 x18 x19 r29 x15 l7 l8 at33 end34 name35 e36 off37 q38
      try dsimp only at f39
      have e40 : ecall O [.row 32 4 (List.map Token.pv l7) true, .row 9 1 (List.map PV.str l8) true, .var [ai x15, .vec 0 l7.length, ai x16, ab x17, .vec 1 l8.length, ai x18, ai x19], .var [ai 0, .nils, ai 0, ab false, .nils, ai 0, ai 0]] 19 [.agg [ai x15, .vec 0 l7.length, ai x16, ab x17, .vec 1 l8.length, ai x18, ai x19], ai r29, ai x15] = some (retAV [.agg [ai at33, .vec 0 l7.length, ai end34, ab name35, .vec 1 l8.length, ai e36, ai off37]], [.row 32 4 (List.map Token.pv l7) true, .row 9 1 (List.map PV.str l8) true, .var [ai x15, .vec 0 l7.length, ai x16, ab x17, .vec 1 l8.length, ai x18, ai x19], .var [ai 0, .nils, ai 0, ab false, .nils, ai 0, ai 0]]) := ecall_eq rfl rfl rfl f39 rfl rfl rfl
      refine AW.reg hS [(0, as_ s1), (3, .ref 2 0), (4, .ref 3 0), (5, ai i14)] [.row 32 4 (List.map Token.pv l7) true, .row 9 1 (List.map PV.str l8) true, .var [ai at33, .vec 0 l7.length, ai end34, ab name35, .vec 1 l8.length, ai e36, ai off37], .var [ai 0, .nils, ai 0, ab false, .nils, ai 0, ai 0]] ?_ ?_
      · simp -implicitDefEqProofs only [RUNS, qindex, Nat.reduceAdd, Nat.reduceLeDiff, Nat.reduceSub, reduceIte, Nat.reduceEqDiff, Nat.reduceLT, reduceCtorEq, Nat.reduceMul, Nat.reduceBEq, Int.reduceEq, if_true, if_false, eq_self, ne_eq, env_bT, T_3, T_24, T_42, Token.pv_eq, Part.pv_eq, pf_19, e40]
      refine AW.reg hS [(0, as_ s1), (3, .ref 2 0), (4, .ref 3 0), (5, ai (IntKind.wrap .i64 (i14 + 1)))] [.row 32 4 (List.map Token.pv l7) true, .row 9 1 (List.map PV.str l8) true, .var [ai at33, .vec 0 l7.length, ai end34, ab name35, .vec 1 l8.length, ai e36, ai off37], .var [ai 0, .nils, ai 0, ab false, .nils, ai 0, ai 0]] ?_ ?_
      · simp -implicitDefEqProofs only [RUNS, qindex, Nat.reduceAdd, Nat.reduceLeDiff, Nat.reduceSub, reduceIte, Nat.reduceEqDiff, Nat.reduceLT, reduceCtorEq, Nat.reduceMul, Nat.reduceBEq, Int.reduceEq, if_true, if_false, eq_self, ne_eq, env_bT, T_3, Token.pv_eq, Part.pv_eq, eqT_3]
      exact ⟨(m22, (IntKind.wrap .i64 (i14 + 1), at33, end34, name35, e36, off37)), h, (Weak.norm (m := 4) (Nat.le_of_ble_eq_true rfl) ⟨rfl, rfl, rfl, rfl, trivial⟩ rfl rfl rfl), Nat.lt_succ_self _⟩
    · replace h := bif_f hb32 h
      refine AW.reg hS [(0, as_ s1), (3, .ref 2 0), (4, .ref 3 0), (5, ai i14)] [.row 32 4 (List.map Token.pv l7) true, .row 9 1 (List.map PV.str l8) true, .var [ai r28, .vec 0 l7.length, ai x16, ab x17, .vec 1 l8.length, ai x18, ai x19], .var [ai 0, .nils, ai 0, ab false, .nils, ai 0, ai 0]] ?_ ?_
      · simp -implicitDefEqProofs only [RUNS, qindex, Nat.reduceAdd, Nat.reduceLeDiff, Nat.reduceSub, reduceIte, Nat.reduceEqDiff, Nat.reduceLT, reduceCtorEq, Nat.reduceMul, Nat.reduceBEq, Int.reduceEq, if_true, if_false, eq_self, ne_eq, env_bT, T_3, T_42, Token.pv_eq, Part.pv_eq]
      refine AW.reg hS [(0, as_ s1), (3, .ref 2 0), (4, .ref 3 0), (5, ai (IntKind.wrap .i64 (i14 + 1)))] [.row 32 4 (List.map Token.pv l7) true, .row 9 1 (List.map PV.str l8) true, .var [ai r28, .vec 0 l7.length, ai x16, ab x17, .vec 1 l8.length, ai x18, ai x19], .var [ai 0, .nils, ai 0, ab false, .nils, ai 0, ai 0]] ?_ ?_
      · simp -implicitDefEqProofs only [RUNS, qindex, Nat.reduceAdd, Nat.reduceLeDiff, Nat.reduceSub, reduceIte, Nat.reduceEqDiff, Nat.reduceLT, reduceCtorEq, Nat.reduceMul, Nat.reduceBEq, Int.reduceEq, if_true, if_false, eq_self, ne_eq, env_bT, T_3, Token.pv_eq, Part.pv_eq, eqT_3]
      exact ⟨(m22, (IntKind.wrap .i64 (i14 + 1), r28, x16, x17, x18, x19)), h, (Weak.norm (m := 4) (Nat.le_of_ble_eq_true rfl) ⟨rfl, rfl, rfl, rfl, trivial⟩ rfl rfl rfl), Nat.lt_succ_self _⟩
  · replace h := bif_f hb23 h
    refine AW.exit ?_
    refine AW.seq ?_
    refine AW.reg hS [(3, .ref 2 0), (4, .ref 3 0)] [.row 32 4 (List.map Token.pv l7) true, .row 9 1 (List.map PV.str l8) true, .var [ai x15, .vec 0 l7.length, ai x16, ab x17, .nils, ai x18, ai x19], .var [ai 0, .nils, ai 0, ab false, .nils, ai 0, ai 0]] ?_ ?_
    · simp -implicitDefEqProofs only [RUNS, qindex, Nat.reduceAdd, Nat.reduceLeDiff, Nat.reduceSub, reduceIte, Nat.reduceEqDiff, Nat.reduceLT, reduceCtorEq, Nat.reduceMul, Nat.reduceBEq, Int.reduceEq, if_true, if_false, eq_self, ne_eq, env_bT, T_9, T_35, T_42, Token.pv_eq, Part.pv_eq]
    refine AW.seq ?_
    refine AW.reg hS [(4, .ref 3 0)] [.row 32 4 (List.map Token.pv l7) true, .row 9 1 (List.map PV.str l8) true, .var [ai x15, .vec 0 l7.length, ai x16, ab x17, .nils, ai x18, ai x19], .var [ai x15, .vec 0 l7.length, ai x16, ab x17, .nils, ai x18, ai x19]] ?_ ?_
    · simp -implicitDefEqProofs only [RUNS, qindex, Nat.reduceAdd, Nat.reduceLeDiff, Nat.reduceSub, reduceIte, Nat.reduceEqDiff, Nat.reduceLT, reduceCtorEq, Nat.reduceMul, Nat.reduceBEq, Int.reduceEq, if_true, if_false, eq_self, ne_eq, env_bT, T_42, Token.pv_eq, Part.pv_eq]
    refine AW.ret ?_
    cases h
    show finish _ _ _ _ _ = _
    first | rfl | (simp [finish, resOf, renArgs, toPV, selObjs, sl])

set_option maxHeartbeats 4000000 in
theorem g_F55 {O : Orc} (hS : Sound env O) (hpf : O.pf = pfn) (c1 : Int) (all2 : Str) (r3 : Bool) (h : F55 c1 all2 = some r3) : Good env 55 [.pv (.int .u8 c1), as_ all2] [] [ab r3] [] := by
  refine Good.start (fn := Tryz.f55) (N := 17) fn_55 rfl rfl (by simp) [] _ rfl rfl ?_
  rw [F55] at h
  refine AW.seq ?_
  refine AW.reg hS [(0, .pv (.int .u8 c1)), (1, as_ all2)] [] ?_ ?_
  · simp -implicitDefEqProofs only [RUNS, qindex, Nat.reduceAdd, Nat.reduceLeDiff, Nat.reduceSub, reduceIte, Nat.reduceEqDiff, Nat.reduceLT, reduceCtorEq, Nat.reduceMul, Nat.reduceBEq, Int.reduceEq, if_true, if_false, eq_self, ne_eq, env_bT, Token.pv_eq, Part.pv_eq]
  refine AW.seq ?_
  refine AW.seq ?_
  refine AW.reg hS [(0, .pv (.int .u8 c1)), (1, as_ all2), (5, ai 0)] [] ?_ ?_
  · simp -implicitDefEqProofs only [RUNS, qindex, Nat.reduceAdd, Nat.reduceLeDiff, Nat.reduceSub, reduceIte, Nat.reduceEqDiff, Nat.reduceLT, reduceCtorEq, Nat.reduceMul, Nat.reduceBEq, Int.reduceEq, if_true, if_false, eq_self, ne_eq, env_bT, Token.pv_eq, Part.pv_eq]
  refine AW.block ?_
  refine AW.weak (Weak.slots (L := [(0, .pv (.int .u8 c1)), (1, as_ all2), (5, ai 0)]) ⟨rfl, rfl, rfl, trivial⟩) ?_
  refine AW.loopI (α := Nat × Int) (fun (_, i4) => ⟨sl [(0, .pv (.int .u8 c1)), (1, as_ all2), (5, ai i4)], 17, []⟩) (fun x => iter (F55_b1 all2 c1) x.1 x.2 = some r3) (fun x => x.1) (BIG, 0) h ?_
  clear h
  intro ⟨n13, i4⟩ h
  replace h := iter_some h; obtain ⟨m7, rfl, h⟩ := h
  rw [F55_b1] at h
  try dsimp only at h
  show AW _ _ _ _ ⟨sl [(0, .pv (.int .u8 c1)), (1, as_ all2), (5, ai i4)], 17, []⟩
  refine AW.seq ?_
  refine AW.seq ?_
  refine AW.reg hS [(0, .pv (.int .u8 c1)), (1, as_ all2), (5, ai i4), (9, ab (decide (i4 < (all2.length : Int))))] [] ?_ ?_
  · simp -implicitDefEqProofs only [RUNS, qindex, Nat.reduceAdd, Nat.reduceLeDiff, Nat.reduceSub, reduceIte, Nat.reduceEqDiff, Nat.reduceLT, reduceCtorEq, Nat.reduceMul, Nat.reduceBEq, Int.reduceEq, if_true, if_false, eq_self, ne_eq, env_bT, T_3, T_9, Token.pv_eq, Part.pv_eq, eqT_3]
  refine AW.cond (b := decide (i4 < (all2.length : Int))) rfl (fun hb8 => ?_) (fun hb8 => ?_)
  · replace h := bif_t hb8 h
    refine AW.skip ?_
    refine AW.seq ?_
    refine AW.block ?_
    refine AW.seq ?_
    replace h := Option.bind_eq_some_iff.1 h; obtain ⟨c9, q10, h⟩ := h
    have f11 := sidx_f q10
    refine AW.reg hS [(0, .pv (.int .u8 c1)), (1, as_ all2), (5, ai i4), (16, ab (decide (c9 = c1)))] [] ?_ ?_
    · simp -implicitDefEqProofs only [RUNS, qindex, Nat.reduceAdd, Nat.reduceLeDiff, Nat.reduceSub, reduceIte, Nat.reduceEqDiff, Nat.reduceLT, reduceCtorEq, Nat.reduceMul, Nat.reduceBEq, Int.reduceEq, if_true, if_false, eq_self, ne_eq, env_bT, T_5, T_9, Token.pv_eq, Part.pv_eq, f11.1, f11.2.1, f11.2.2, eqT_5]
    refine AW.cond (b := decide (c9 = c1)) rfl (fun hb12 => ?_) (fun hb12 => ?_)
    · replace h := bif_t hb12 h
      refine AW.seq ?_
      refine AW.reg hS [(4, ab true)] [] ?_ ?_
      · simp -implicitDefEqProofs only [RUNS, qindex, Nat.reduceAdd, Nat.reduceLeDiff, Nat.reduceSub, reduceIte, Nat.reduceEqDiff, Nat.reduceLT, reduceCtorEq, Nat.reduceMul, Nat.reduceBEq, Int.reduceEq, if_true, if_false, eq_self, ne_eq, env_bT, Token.pv_eq, Part.pv_eq]
      refine AW.ret ?_
      cases h
      show finish _ _ _ _ _ = _
      first | rfl | (simp [finish, resOf, renArgs, toPV, selObjs, sl])
    · replace h := bif_f hb12 h
      refine AW.skip ?_
      refine AW.reg hS [(0, .pv (.int .u8 c1)), (1, as_ all2), (5, ai (IntKind.wrap .i64 (i4 + 1)))] [] ?_ ?_
      · simp -implicitDefEqProofs only [RUNS, qindex, Nat.reduceAdd, Nat.reduceLeDiff, Nat.reduceSub, reduceIte, Nat.reduceEqDiff, Nat.reduceLT, reduceCtorEq, Nat.reduceMul, Nat.reduceBEq, Int.reduceEq, if_true, if_false, eq_self, ne_eq, env_bT, T_3, Token.pv_eq, Part.pv_eq, eqT_3]
      exact ⟨(m7, IntKind.wrap .i64 (i4 + 1)), h, (Weak.norm (m := 0) (Nat.le_of_ble_eq_true rfl) ⟨rfl, rfl, rfl, trivial⟩ rfl rfl rfl), Nat.lt_succ_self _⟩
  · replace h := bif_f hb8 h
    refine AW.exit ?_
    refine AW.seq ?_
    refine AW.reg hS [(4, ab false)] [] ?_ ?_
    · simp -implicitDefEqProofs only [RUNS, qindex, Nat.reduceAdd, Nat.reduceLeDiff, Nat.reduceSub, reduceIte, Nat.reduceEqDiff, Nat.reduceLT, reduceCtorEq, Nat.reduceMul, Nat.reduceBEq, Int.reduceEq, if_true, if_false, eq_self, ne_eq, env_bT, Token.pv_eq, Part.pv_eq]
    refine AW.ret ?_
    cases h
    show finish _ _ _ _ _ = _
    first | rfl | (simp [finish, resOf, renArgs, toPV, selObjs, sl])

set_option maxHeartbeats 4000000 in
theorem g_F57 {O : Orc} (hS : Sound env O) (hpf : O.pf = pfn) (c_F34 : C_F34 O) (c_F55 : C_F55 O) (s1 : Str) (at2 : Int) (r3 : Bool) (h : F57 s1 at2 = some r3) : Good env 57 [as_ s1, ai at2] [] [ab r3] [] := by
  have pf_34 : O.pf 34 = true := by rw [hpf]; rfl
  have pf_55 : O.pf 55 = true := by rw [hpf]; rfl
  refine Good.start (fn := Tryz.f57) (N := 22) fn_57 rfl rfl (by simp) [] _ rfl rfl ?_
  rw [F57] at h
  refine AW.seq ?_
  refine AW.reg hS [(0, as_ s1), (1, ai at2)] [] ?_ ?_
  · simp -implicitDefEqProofs only [RUNS, qindex, Nat.reduceAdd, Nat.reduceLeDiff, Nat.reduceSub, reduceIte, Nat.reduceEqDiff, Nat.reduceLT, reduceCtorEq, Nat.reduceMul, Nat.reduceBEq, Int.reduceEq, if_true, if_false, eq_self, ne_eq, env_bT, Token.pv_eq, Part.pv_eq]
  refine AW.seq ?_
  replace h := Option.bind_eq_some_iff.1 h; obtain ⟨r4, q5, h⟩ := h
  have f6 := fun hg => c_F34 s1 at2 r4 (guardO_t q5 hg)
  try dsimp only at f6
  replace h := Option.bind_eq_some_iff.1 h; obtain ⟨c7, q8, h⟩ := h
  have f9 := sidx_g (guardO_t q8)
  replace h := Option.bind_eq_some_iff.1 h; obtain ⟨r10, q11, h⟩ := h
  have f12 := fun hg => c_F55 c7 [10, 59, 38, 124, 40, 41, 123, 125, 60, 62, 61, 94, 96, 36, 39] r10 (guardO_t q11 hg)
  try dsimp only at f12
  try simp only [List.map_cons, List.map_nil, Token.pv_eq, Part.pv_eq] at f12
  refine AW.reg hS [(4, ab ((decide (at2 < (s1.length : Int)) && decide (r4 = 0)) && !r10))] [] ?_ ?_
  · clear h
    (simp -implicitDefEqProofs only [RUNS, qindex, Nat.reduceAdd, Nat.reduceLeDiff, Nat.reduceSub, reduceIte, Nat.reduceEqDiff, Nat.reduceLT, reduceCtorEq, Nat.reduceMul, Nat.reduceBEq, Int.reduceEq, if_true, if_false, eq_self, ne_eq, env_bT, T_3, T_5, T_9, Token.pv_eq, Part.pv_eq, eqT_3, pf_34, f6, f9.1, f9.2.1, f9.2.2, pf_55, f12]); repeat' (split <;> rename_i hb <;> (try simp only [HBS, ge_iff_le, gt_iff_lt] at hb) <;> simp -implicitDefEqProofs only [RUNS, qindex, Nat.reduceAdd, Nat.reduceLeDiff, Nat.reduceSub, reduceIte, Nat.reduceEqDiff, Nat.reduceLT, reduceCtorEq, Nat.reduceMul, Nat.reduceBEq, Int.reduceEq, if_true, if_false, eq_self, ne_eq, env_bT, T_3, T_5, T_9, Token.pv_eq, Part.pv_eq, eqT_3, pf_34, f6, f9.1, f9.2.1, f9.2.2, pf_55, f12, *, decide_true, decide_false, Decidable.not_not, not_false_eq_true, not_true_eq_false])
    all_goals (first | (simp only [BOOLS]; done) | (simp [*]; done) | ((try simp only [CLOS, beq_iff_eq, bne_iff_ne, ne_eq] at *) <;> omega) | (simp_all; done) | (simp_all <;> omega))
  refine AW.ret ?_
  cases h
  show finish _ _ _ _ _ = _
  first | rfl | (simp [finish, resOf, renArgs, toPV, selObjs, sl])

set_option maxHeartbeats 4000000 in
theorem g_F58 {O : Orc} (hS : Sound env O) (hpf : O.pf = pfn) (s1 : Str) (at2 : Int) (r3 : Part) (h : F58 s1 at2 = some r3) : Good env 58 [as_ s1, ai at2] [] [.pv (.agg [.str r3.text_, .str r3.quoted_, .int .i64 r3.to_, .bool r3.ok_])] [] := by
  refine Good.start (fn := Tryz.f58) (N := 51) fn_58 rfl rfl (by simp) [] _ rfl rfl ?_
  rw [F58] at h
  refine AW.seq ?_
  refine AW.reg hS [(0, as_ s1), (1, ai at2), (4, .ref 0 0)] [.var [as_ [], as_ [], ai 0, ab false]] ?_ ?_
  · simp -implicitDefEqProofs only [RUNS, qindex, Nat.reduceAdd, Nat.reduceLeDiff, Nat.reduceSub, reduceIte, Nat.reduceEqDiff, Nat.reduceLT, reduceCtorEq, Nat.reduceMul, Nat.reduceBEq, Int.reduceEq, if_true, if_false, eq_self, ne_eq, env_bT, T_62, Token.pv_eq, Part.pv_eq]
  refine AW.seq ?_
  refine AW.reg hS [(0, as_ s1), (1, ai at2), (4, .ref 0 0), (5, .ref 1 0)] [.var [as_ [], as_ [], ai 0, ab false], .var [as_ [], as_ [], ai 0, ab false]] ?_ ?_
  · simp -implicitDefEqProofs only [RUNS, qindex, Nat.reduceAdd, Nat.reduceLeDiff, Nat.reduceSub, reduceIte, Nat.reduceEqDiff, Nat.reduceLT, reduceCtorEq, Nat.reduceMul, Nat.reduceBEq, Int.reduceEq, if_true, if_false, eq_self, ne_eq, env_bT, T_62, Token.pv_eq, Part.pv_eq, ownT_62]
  refine AW.seq ?_
  refine AW.seq ?_
  refine AW.reg hS [(0, as_ s1), (1, ai at2), (4, .ref 0 0), (5, .ref 1 0), (6, ai (IntKind.wrap .i64 (at2 + 1)))] [.var [as_ [], as_ [], ai 0, ab false], .var [as_ [], as_ [], ai 0, ab false]] ?_ ?_
  · simp -implicitDefEqProofs only [RUNS, qindex, Nat.reduceAdd, Nat.reduceLeDiff, Nat.reduceSub, reduceIte, Nat.reduceEqDiff, Nat.reduceLT, reduceCtorEq, Nat.reduceMul, Nat.reduceBEq, Int.reduceEq, if_true, if_false, eq_self, ne_eq, env_bT, T_3, Token.pv_eq, Part.pv_eq, eqT_3]
  refine AW.block ?_
  refine AW.weak (Weak.slots (L := [(0, as_ s1), (1, ai at2), (4, .ref 0 0), (5, .ref 1 0), (6, ai (IntKind.wrap .i64 (at2 + 1)))]) ⟨rfl, rfl, rfl, rfl, rfl, trivial⟩) ?_
  refine AW.loopI (α := Nat × Int × Str × Str) (fun (_, i4, x5, x6) => ⟨sl [(0, as_ s1), (1, ai at2), (4, .ref 0 0), (5, .ref 1 0), (6, ai i4)], 51, [.var [as_ [], as_ [], ai 0, ab false], .var [as_ x5, as_ x6, ai 0, ab false]]⟩) (fun x => iter (F58_b2 s1 at2) x.1 x.2 = some r3) (fun x => x.1) (BIG, (IntKind.wrap .i64 (at2 + 1), [], [])) h ?_
  clear h
  intro ⟨n29, i4, x5, x6⟩ h
  replace h := iter_some h; obtain ⟨m9, rfl, h⟩ := h
  rw [F58_b2] at h
  try dsimp only at h
  show AW _ _ _ _ ⟨sl [(0, as_ s1), (1, ai at2), (4, .ref 0 0), (5, .ref 1 0), (6, ai i4)], 51, [.var [as_ [], as_ [], ai 0, ab false], .var [as_ x5, as_ x6, ai 0, ab false]]⟩
  refine AW.seq ?_
  refine AW.seq ?_
  refine AW.reg hS [(0, as_ s1), (1, ai at2), (4, .ref 0 0), (5, .ref 1 0), (6, ai i4), (13, ab (decide (i4 < (s1.length : Int))))] [.var [as_ [], as_ [], ai 0, ab false], .var [as_ x5, as_ x6, ai 0, ab false]] ?_ ?_
  · simp -implicitDefEqProofs only [RUNS, qindex, Nat.reduceAdd, Nat.reduceLeDiff, Nat.reduceSub, reduceIte, Nat.reduceEqDiff, Nat.reduceLT, reduceCtorEq, Nat.reduceMul, Nat.reduceBEq, Int.reduceEq, if_true, if_false, eq_self, ne_eq, env_bT, T_3, T_9, Token.pv_eq, Part.pv_eq, eqT_3]
  refine AW.cond (b := decide (i4 < (s1.length : Int))) rfl (fun hb10 => ?_) (fun hb10 => ?_)
  · replace h := bif_t hb10 h
    refine AW.skip ?_
    refine AW.seq ?_
    refine AW.block ?_
    refine AW.seqJ (α := Int) (fun i11 => ⟨sl [(0, as_ s1), (1, ai at2), (4, .ref 0 0), (5, .ref 1 0), (6, ai i11)], 51, [.var [as_ [], as_ [], ai 0, ab false], .var [as_ x5, as_ x6, ai 0, ab false]]⟩) (fun x => F58_j3 s1 x5 x6 (iter (F58_b2 s1 at2) m9) x = some r3) ?_ ?_
    · intro i11 h
      rw [F58_j3] at h
      try dsimp only at h
      show AW _ _ _ _ ⟨sl [(0, as_ s1), (1, ai at2), (4, .ref 0 0), (5, .ref 1 0), (6, ai i11)], 51, [.var [as_ [], as_ [], ai 0, ab false], .var [as_ x5, as_ x6, ai 0, ab false]]⟩
      refine AW.seq ?_
      replace h := Option.bind_eq_some_iff.1 h; obtain ⟨t12, q13, h⟩ := h
      have f14 := sslice_f q13
      have f14e := f14.2.2.2.2
      try simp only [Int.toNat_natCast, Int.toNat_zero, List.drop_zero] at f14e
      have f14l := f14.2.2.1
      try simp only [Int.toNat_natCast, Int.toNat_zero] at f14l
      replace h := Option.bind_eq_some_iff.1 h; obtain ⟨s15, q16, h⟩ := h
      have f17 := catO_f q16
      try simp only [List.length_cons, List.length_nil, Nat.zero_add, Nat.reduceAdd, Nat.reduceLeDiff, Nat.add_zero, Nat.reduceMul] at f17
      refine AW.dregB mixed hS [(5, some 1), (36, some 1), (44, some 1)] rfl (hpf ▸ (by kernel_rfl : orderOKB pfn [(5, some 1), (36, some 1), (44, some 1)] _ = true)) [(0, as_ s1), (1, ai at2), (4, .ref 0 0), (5, .ref 1 0), (6, ai i11)] [.var [as_ [], as_ [], ai 0, ab false], .var [as_ s15, as_ x6, ai 0, ab false]] ?_ ?_
      · simp -implicitDefEqProofs only [RUNS, qindex, Nat.reduceAdd, Nat.reduceLeDiff, Nat.reduceSub, reduceIte, Nat.reduceEqDiff, Nat.reduceLT, reduceCtorEq, Nat.reduceMul, Nat.reduceBEq, Int.reduceEq, if_true, if_false, eq_self, ne_eq, env_bT, T_3, T_9, T_62, Token.pv_eq, Part.pv_eq, eqT_3, f14.1, f14.2.1, f14l, f14.2.2.2.1, f14e, Int.toNat_natCast, Int.toNat_zero, eqT_9, f17.1, f17.2]
      replace h := Option.bind_eq_some_iff.1 h; obtain ⟨s18, q19, h⟩ := h
      have f20 := catO_f q19
      try simp only [List.length_cons, List.length_nil, Nat.zero_add, Nat.reduceAdd, Nat.reduceLeDiff, Nat.add_zero, Nat.reduceMul] at f20
      refine AW.reg hS [(0, as_ s1), (1, ai at2), (4, .ref 0 0), (5, .ref 1 0), (6, ai i11)] [.var [as_ [], as_ [], ai 0, ab false], .var [as_ s15, as_ s18, ai 0, ab false]] ?_ ?_
      · simp -implicitDefEqProofs only [RUNS, qindex, Nat.reduceAdd, Nat.reduceLeDiff, Nat.reduceSub, reduceIte, Nat.reduceEqDiff, Nat.reduceLT, reduceCtorEq, Nat.reduceMul, Nat.reduceBEq, Int.reduceEq, if_true, if_false, eq_self, ne_eq, env_bT, T_9, T_62, Token.pv_eq, Part.pv_eq, eqT_9, f20.1, f20.2]
      refine AW.reg hS [(0, as_ s1), (1, ai at2), (4, .ref 0 0), (5, .ref 1 0), (6, ai (IntKind.wrap .i64 (i11 + 1)))] [.var [as_ [], as_ [], ai 0, ab false], .var [as_ s15, as_ s18, ai 0, ab false]] ?_ ?_
      · simp -implicitDefEqProofs only [RUNS, qindex, Nat.reduceAdd, Nat.reduceLeDiff, Nat.reduceSub, reduceIte, Nat.reduceEqDiff, Nat.reduceLT, reduceCtorEq, Nat.reduceMul, Nat.reduceBEq, Int.reduceEq, if_true, if_false, eq_self, ne_eq, env_bT, T_3, Token.pv_eq, Part.pv_eq, eqT_3]
      exact ⟨(m9, (IntKind.wrap .i64 (i11 + 1), s15, s18)), h, (Weak.norm (m := 2) (Nat.le_of_ble_eq_true rfl) ⟨rfl, rfl, rfl, rfl, rfl, trivial⟩ rfl rfl rfl), Nat.lt_succ_self _⟩
    refine AW.seq ?_
    replace h := Option.bind_eq_some_iff.1 h; obtain ⟨c21, q22, h⟩ := h
    have f23 := sidx_f q22
    refine AW.reg hS [(0, as_ s1), (1, ai at2), (4, .ref 0 0), (5, .ref 1 0), (6, ai i4), (19, ab (decide (c21 = 39)))] [.var [as_ [], as_ [], ai 0, ab false], .var [as_ x5, as_ x6, ai 0, ab false]] ?_ ?_
    · simp -implicitDefEqProofs only [RUNS, qindex, Nat.reduceAdd, Nat.reduceLeDiff, Nat.reduceSub, reduceIte, Nat.reduceEqDiff, Nat.reduceLT, reduceCtorEq, Nat.reduceMul, Nat.reduceBEq, Int.reduceEq, if_true, if_false, eq_self, ne_eq, env_bT, T_5, T_9, Token.pv_eq, Part.pv_eq, f23.1, f23.2.1, f23.2.2, eqT_5]
    refine AW.cond (b := decide (c21 = 39)) rfl (fun hb24 => ?_) (fun hb24 => ?_)
    · replace h := bif_t hb24 h
      refine AW.seq ?_
      refine AW.reg hS [(0, as_ s1), (1, ai at2), (4, .ref 0 0), (5, .ref 1 0), (6, ai (IntKind.wrap .i64 (i4 + 1)))] [.var [as_ [], as_ [], ai 0, ab false], .var [as_ x5, as_ x6, ai 0, ab false]] ?_ ?_
      · simp -implicitDefEqProofs only [RUNS, qindex, Nat.reduceAdd, Nat.reduceLeDiff, Nat.reduceSub, reduceIte, Nat.reduceEqDiff, Nat.reduceLT, reduceCtorEq, Nat.reduceMul, Nat.reduceBEq, Int.reduceEq, if_true, if_false, eq_self, ne_eq, env_bT, T_3, Token.pv_eq, Part.pv_eq, eqT_3]
      refine AW.seq ?_
      replace h := Option.bind_eq_some_iff.1 h; obtain ⟨c25, q26, h⟩ := h
      have f27 := sidx_g (guardO_t q26)
      refine AW.reg hS [(0, as_ s1), (1, ai at2), (4, .ref 0 0), (5, .ref 1 0), (6, ai (IntKind.wrap .i64 (i4 + 1))), (31, ab (decide (IntKind.wrap .i64 (i4 + 1) = (s1.length : Int)) || !decide (c25 = 39)))] [.var [as_ [], as_ [], ai 0, ab false], .var [as_ x5, as_ x6, ai 0, ab false]] ?_ ?_
      · clear h
        (simp -implicitDefEqProofs only [RUNS, qindex, Nat.reduceAdd, Nat.reduceLeDiff, Nat.reduceSub, reduceIte, Nat.reduceEqDiff, Nat.reduceLT, reduceCtorEq, Nat.reduceMul, Nat.reduceBEq, Int.reduceEq, if_true, if_false, eq_self, ne_eq, env_bT, T_3, T_5, T_9, Token.pv_eq, Part.pv_eq, eqT_3, f27.1, f27.2.1, f27.2.2, eqT_5]); repeat' (split <;> rename_i hb <;> (try simp only [HBS, ge_iff_le, gt_iff_lt] at hb) <;> simp -implicitDefEqProofs only [RUNS, qindex, Nat.reduceAdd, Nat.reduceLeDiff, Nat.reduceSub, reduceIte, Nat.reduceEqDiff, Nat.reduceLT, reduceCtorEq, Nat.reduceMul, Nat.reduceBEq, Int.reduceEq, if_true, if_false, eq_self, ne_eq, env_bT, T_3, T_5, T_9, Token.pv_eq, Part.pv_eq, eqT_3, f27.1, f27.2.1, f27.2.2, eqT_5, *, decide_true, decide_false, Decidable.not_not, not_false_eq_true, not_true_eq_false])
        all_goals (first | (simp only [BOOLS]; done) | (simp [*]; done) | ((try simp only [CLOS, beq_iff_eq, bne_iff_ne, ne_eq] at *) <;> omega) | (simp_all; done) | (simp_all <;> omega))
      refine AW.cond (b := (decide (IntKind.wrap .i64 (i4 + 1) = (s1.length : Int)) || !decide (c25 = 39))) rfl (fun hb28 => ?_) (fun hb28 => ?_)
      · replace h := bif_t hb28 h
        refine AW.seq ?_
        refine AW.reg hS [(4, .ref 0 0), (5, .ref 1 0)] [.var [as_ [], as_ [], ai 0, ab false], .var [as_ x5, as_ x6, ai (IntKind.wrap .i64 (i4 + 1)), ab false]] ?_ ?_
        · simp -implicitDefEqProofs only [RUNS, qindex, Nat.reduceAdd, Nat.reduceLeDiff, Nat.reduceSub, reduceIte, Nat.reduceEqDiff, Nat.reduceLT, reduceCtorEq, Nat.reduceMul, Nat.reduceBEq, Int.reduceEq, if_true, if_false, eq_self, ne_eq, env_bT, T_3, T_62, Token.pv_eq, Part.pv_eq]
        refine AW.seq ?_
        refine AW.reg hS [(4, .ref 0 0), (5, .ref 1 0)] [.var [as_ [], as_ [], ai 0, ab false], .var [as_ x5, as_ x6, ai (IntKind.wrap .i64 (i4 + 1)), ab true]] ?_ ?_
        · simp -implicitDefEqProofs only [RUNS, qindex, Nat.reduceAdd, Nat.reduceLeDiff, Nat.reduceSub, reduceIte, Nat.reduceEqDiff, Nat.reduceLT, reduceCtorEq, Nat.reduceMul, Nat.reduceBEq, Int.reduceEq, if_true, if_false, eq_self, ne_eq, env_bT, T_4, T_62, Token.pv_eq, Part.pv_eq]
        refine AW.seq ?_
        refine AW.reg hS [(4, .ref 0 0)] [.var [as_ x5, as_ x6, ai (IntKind.wrap .i64 (i4 + 1)), ab true], .var [as_ x5, as_ x6, ai (IntKind.wrap .i64 (i4 + 1)), ab true]] ?_ ?_
        · simp -implicitDefEqProofs only [RUNS, qindex, Nat.reduceAdd, Nat.reduceLeDiff, Nat.reduceSub, reduceIte, Nat.reduceEqDiff, Nat.reduceLT, reduceCtorEq, Nat.reduceMul, Nat.reduceBEq, Int.reduceEq, if_true, if_false, eq_self, ne_eq, env_bT, T_62, Token.pv_eq, Part.pv_eq]
        refine AW.ret ?_
        cases h
        show finish _ _ _ _ _ = _
        first | rfl | (simp [finish, resOf, renArgs, toPV, selObjs, sl])
      · replace h := bif_f hb28 h
        refine AW.skip ?_
        exact ⟨IntKind.wrap .i64 (i4 + 1), h, (Weak.norm (m := 2) (Nat.le_of_ble_eq_true rfl) ⟨rfl, rfl, rfl, rfl, rfl, trivial⟩ rfl rfl rfl)⟩
    · replace h := bif_f hb24 h
      refine AW.skip ?_
      exact ⟨i4, h, (Weak.norm (m := 2) (Nat.le_of_ble_eq_true rfl) ⟨rfl, rfl, rfl, rfl, rfl, trivial⟩ rfl rfl rfl)⟩
  · replace h := bif_f hb10 h
    refine AW.exit ?_
    refine AW.seq ?_
    refine AW.reg hS [(4, .ref 0 0)] [.var [as_ [], as_ [], ai at2, ab false], .var [as_ x5, as_ x6, ai 0, ab false]] ?_ ?_
    · simp -implicitDefEqProofs only [RUNS, qindex, Nat.reduceAdd, Nat.reduceLeDiff, Nat.reduceSub, reduceIte, Nat.reduceEqDiff, Nat.reduceLT, reduceCtorEq, Nat.reduceMul, Nat.reduceBEq, Int.reduceEq, if_true, if_false, eq_self, ne_eq, env_bT, T_62, Token.pv_eq, Part.pv_eq, ownT_62]
    refine AW.ret ?_
    cases h
    show finish _ _ _ _ _ = _
    first | rfl | (simp [finish, resOf, renArgs, toPV, selObjs, sl])

set_option maxHeartbeats 4000000 in
theorem g_F40 {O : Orc} (hS : Sound env O) (hpf : O.pf = pfn) (c_F57 : C_F57 O) (c_F58 : C_F58 O) (s1 : Str) (at2 : Int) (r3 : Part) (h : F40 s1 at2 = some r3) : Good env 40 [as_ s1, ai at2] [] [.pv (.agg [.str r3.text_, .str r3.quoted_, .int .i64 r3.to_, .bool r3.ok_])] [] := by
  have pf_57 : O.pf 57 = true := by rw [hpf]; rfl
  have pf_58 : O.pf 58 = true := by rw [hpf]; rfl
  refine Good.start (fn := Tryz.f40) (N := 71) fn_40 rfl rfl (by simp) [] _ rfl rfl ?_
  rw [F40] at h
  refine AW.seq ?_
  refine AW.reg hS [(0, as_ s1), (1, ai at2), (4, .ref 0 0)] [.var [as_ [], as_ [], ai 0, ab false]] ?_ ?_
  · simp -implicitDefEqProofs only [RUNS, qindex, Nat.reduceAdd, Nat.reduceLeDiff, Nat.reduceSub, reduceIte, Nat.reduceEqDiff, Nat.reduceLT, reduceCtorEq, Nat.reduceMul, Nat.reduceBEq, Int.reduceEq, if_true, if_false, eq_self, ne_eq, env_bT, T_62, Token.pv_eq, Part.pv_eq]
  refine AW.seq ?_
  refine AW.reg hS [(0, as_ s1), (4, .ref 0 0), (5, .ref 1 0)] [.var [as_ [], as_ [], ai 0, ab false], .var [as_ [], as_ [], ai at2, ab true]] ?_ ?_
  · simp -implicitDefEqProofs only [RUNS, qindex, Nat.reduceAdd, Nat.reduceLeDiff, Nat.reduceSub, reduceIte, Nat.reduceEqDiff, Nat.reduceLT, reduceCtorEq, Nat.reduceMul, Nat.reduceBEq, Int.reduceEq, if_true, if_false, eq_self, ne_eq, env_bT, T_62, Token.pv_eq, Part.pv_eq, ownT_62]
  refine AW.seq ?_
  refine AW.block ?_
  refine AW.weak (Weak.slots (L := [(0, as_ s1), (4, .ref 0 0), (5, .ref 1 0)]) ⟨rfl, rfl, rfl, trivial⟩) ?_
  refine AW.loopI (α := Nat × Str × Str × Int × Bool) (fun (_, x4, x5, x6, x7) => ⟨sl [(0, as_ s1), (4, .ref 0 0), (5, .ref 1 0)], 71, [.var [as_ [], as_ [], ai 0, ab false], .var [as_ x4, as_ x5, ai x6, ab x7]]⟩) (fun x => iter (F40_b1 s1) x.1 x.2 = some r3) (fun x => x.1) (BIG, ([], [], at2, true)) h ?_
  clear h
  intro ⟨n41, x4, x5, x6, x7⟩ h
  replace h := iter_some h; obtain ⟨m10, rfl, h⟩ := h
  rw [F40_b1] at h
  try dsimp only at h
  show AW _ _ _ _ ⟨sl [(0, as_ s1), (4, .ref 0 0), (5, .ref 1 0)], 71, [.var [as_ [], as_ [], ai 0, ab false], .var [as_ x4, as_ x5, ai x6, ab x7]]⟩
  refine AW.seq ?_
  refine AW.seq ?_
  replace h := Option.bind_eq_some_iff.1 h; obtain ⟨r11, q12, h⟩ := h
  have f13 := c_F57 s1 x6 r11 q12
  try dsimp only at f13
  replace h := Option.bind_eq_some_iff.1 h; obtain ⟨c14, q15, h⟩ := h
  have f16 := sidx_g (guardO_t q15)
  refine AW.reg hS [(0, as_ s1), (4, .ref 0 0), (5, .ref 1 0), (26, ab (r11 || (decide (x6 < (s1.length : Int)) && decide (c14 = 39))))] [.var [as_ [], as_ [], ai 0, ab false], .var [as_ x4, as_ x5, ai x6, ab x7]] ?_ ?_
  · clear h
    (simp -implicitDefEqProofs only [RUNS, qindex, Nat.reduceAdd, Nat.reduceLeDiff, Nat.reduceSub, reduceIte, Nat.reduceEqDiff, Nat.reduceLT, reduceCtorEq, Nat.reduceMul, Nat.reduceBEq, Int.reduceEq, if_true, if_false, eq_self, ne_eq, env_bT, T_3, T_5, T_9, T_62, Token.pv_eq, Part.pv_eq, pf_57, f13, eqT_3, f16.1, f16.2.1, f16.2.2, eqT_5]); repeat' (split <;> rename_i hb <;> (try simp only [HBS, ge_iff_le, gt_iff_lt] at hb) <;> simp -implicitDefEqProofs only [RUNS, qindex, Nat.reduceAdd, Nat.reduceLeDiff, Nat.reduceSub, reduceIte, Nat.reduceEqDiff, Nat.reduceLT, reduceCtorEq, Nat.reduceMul, Nat.reduceBEq, Int.reduceEq, if_true, if_false, eq_self, ne_eq, env_bT, T_3, T_5, T_9, T_62, Token.pv_eq, Part.pv_eq, pf_57, f13, eqT_3, f16.1, f16.2.1, f16.2.2, eqT_5, *, decide_true, decide_false, Decidable.not_not, not_false_eq_true, not_true_eq_false])
    all_goals (first | (simp only [BOOLS]; done) | (simp [*]; done) | ((try simp only [CLOS, beq_iff_eq, bne_iff_ne, ne_eq] at *) <;> omega) | (simp_all; done) | (simp_all <;> omega))
  refine AW.cond (b := (r11 || (decide (x6 < (s1.length : Int)) && decide (c14 = 39)))) rfl (fun hb17 => ?_) (fun hb17 => ?_)
  · replace h := bif_t hb17 h
    refine AW.skip ?_
    refine AW.block ?_
    refine AW.seq ?_
    replace h := Option.bind_eq_some_iff.1 h; obtain ⟨c18, q19, h⟩ := h
    have f20 := sidx_f q19
    refine AW.reg hS [(0, as_ s1), (4, .ref 0 0), (5, .ref 1 0), (31, ab (decide (c18 = 39)))] [.var [as_ [], as_ [], ai 0, ab false], .var [as_ x4, as_ x5, ai x6, ab x7]] ?_ ?_
    · simp -implicitDefEqProofs only [RUNS, qindex, Nat.reduceAdd, Nat.reduceLeDiff, Nat.reduceSub, reduceIte, Nat.reduceEqDiff, Nat.reduceLT, reduceCtorEq, Nat.reduceMul, Nat.reduceBEq, Int.reduceEq, if_true, if_false, eq_self, ne_eq, env_bT, T_3, T_5, T_9, T_62, Token.pv_eq, Part.pv_eq, f20.1, f20.2.1, f20.2.2, eqT_5]
    refine AW.cond (b := decide (c18 = 39)) rfl (fun hb21 => ?_) (fun hb21 => ?_)
    · replace h := bif_t hb21 h
      refine AW.seq ?_
      replace h := Option.bind_eq_some_iff.1 h; obtain ⟨r22, q23, h⟩ := h
      have f24 := c_F58 s1 x6 r22 q23
      try dsimp only at f24
      refine AW.reg hS [(0, as_ s1), (4, .ref 0 0), (5, .ref 1 0), (6, .ref 2 0)] [.var [as_ [], as_ [], ai 0, ab false], .var [as_ x4, as_ x5, ai x6, ab x7], .var [as_ r22.text_, as_ r22.quoted_, ai r22.to_, ab r22.ok_]] ?_ ?_
      · simp -implicitDefEqProofs only [RUNS, qindex, Nat.reduceAdd, Nat.reduceLeDiff, Nat.reduceSub, reduceIte, Nat.reduceEqDiff, Nat.reduceLT, reduceCtorEq, Nat.reduceMul, Nat.reduceBEq, Int.reduceEq, if_true, if_false, eq_self, ne_eq, env_bT, T_3, T_9, T_62, Token.pv_eq, Part.pv_eq, pf_58, f24]
      refine AW.seq ?_
      refine AW.seq ?_
      refine AW.reg hS [(0, as_ s1), (4, .ref 0 0), (5, .ref 1 0), (6, .ref 2 0), (38, ab (!r22.ok_))] [.var [as_ [], as_ [], ai 0, ab false], .var [as_ x4, as_ x5, ai x6, ab x7], .var [as_ r22.text_, as_ r22.quoted_, ai r22.to_, ab r22.ok_]] ?_ ?_
      · simp -implicitDefEqProofs only [RUNS, qindex, Nat.reduceAdd, Nat.reduceLeDiff, Nat.reduceSub, reduceIte, Nat.reduceEqDiff, Nat.reduceLT, reduceCtorEq, Nat.reduceMul, Nat.reduceBEq, Int.reduceEq, if_true, if_false, eq_self, ne_eq, env_bT, T_4, T_62, Token.pv_eq, Part.pv_eq]
      refine AW.cond (b := !r22.ok_) rfl (fun hb25 => ?_) (fun hb25 => ?_)
      · replace h := bif_t hb25 h
        refine AW.seq ?_
        refine AW.reg hS [(4, .ref 0 0)] [.var [as_ r22.text_, as_ r22.quoted_, ai r22.to_, ab r22.ok_], .var [as_ x4, as_ x5, ai x6, ab x7], .var [as_ r22.text_, as_ r22.quoted_, ai r22.to_, ab r22.ok_]] ?_ ?_
        · simp -implicitDefEqProofs only [RUNS, qindex, Nat.reduceAdd, Nat.reduceLeDiff, Nat.reduceSub, reduceIte, Nat.reduceEqDiff, Nat.reduceLT, reduceCtorEq, Nat.reduceMul, Nat.reduceBEq, Int.reduceEq, if_true, if_false, eq_self, ne_eq, env_bT, T_62, Token.pv_eq, Part.pv_eq]
        refine AW.ret ?_
        cases h
        show finish _ _ _ _ _ = _
        first | rfl | (simp [finish, resOf, renArgs, toPV, selObjs, sl])
      · replace h := bif_f hb25 h
        refine AW.skip ?_
        replace h := Option.bind_eq_some_iff.1 h; obtain ⟨s26, q27, h⟩ := h
        have f28 := catO_f q27
        try simp only [List.length_cons, List.length_nil, Nat.zero_add, Nat.reduceAdd, Nat.reduceLeDiff, Nat.add_zero, Nat.reduceMul] at f28
        replace h := Option.bind_eq_some_iff.1 h; obtain ⟨s29, q30, h⟩ := h
        have f31 := catO_f q30
        try simp only [List.length_cons, List.length_nil, Nat.zero_add, Nat.reduceAdd, Nat.reduceLeDiff, Nat.add_zero, Nat.reduceMul] at f31
        refine AW.reg hS [(0, as_ s1), (4, .ref 0 0), (5, .ref 1 0)] [.var [as_ [], as_ [], ai 0, ab false], .var [as_ s26, as_ s29, ai r22.to_, ab true], .var [as_ r22.text_, as_ r22.quoted_, ai r22.to_, ab r22.ok_]] ?_ ?_
        · simp -implicitDefEqProofs only [RUNS, qindex, Nat.reduceAdd, Nat.reduceLeDiff, Nat.reduceSub, reduceIte, Nat.reduceEqDiff, Nat.reduceLT, reduceCtorEq, Nat.reduceMul, Nat.reduceBEq, Int.reduceEq, if_true, if_false, eq_self, ne_eq, env_bT, T_3, T_9, T_62, Token.pv_eq, Part.pv_eq, eqT_9, f28.1, f28.2, f31.1, f31.2, ownT_62]
        exact ⟨(m10, (s26, s29, r22.to_, true)), h, (Weak.norm (m := 2) (Nat.le_of_ble_eq_true rfl) ⟨rfl, rfl, rfl, trivial⟩ rfl rfl rfl), Nat.lt_succ_self _⟩
    · replace h := bif_f hb21 h
      replace h := Option.bind_eq_some_iff.1 h; obtain ⟨t32, q33, h⟩ := h
      have f34 := sslice_f q33
      have f34e := f34.2.2.2.2
      try simp only [Int.toNat_natCast, Int.toNat_zero, List.drop_zero] at f34e
      have f34l := f34.2.2.1
      try simp only [Int.toNat_natCast, Int.toNat_zero] at f34l
      replace h := Option.bind_eq_some_iff.1 h; obtain ⟨s35, q36, h⟩ := h
      have f37 := catO_f q36
      try simp only [List.length_cons, List.length_nil, Nat.zero_add, Nat.reduceAdd, Nat.reduceLeDiff, Nat.add_zero, Nat.reduceMul] at f37
      replace h := Option.bind_eq_some_iff.1 h; obtain ⟨s38, q39, h⟩ := h
      have f40 := catO_f q39
      try simp only [List.length_cons, List.length_nil, Nat.zero_add, Nat.reduceAdd, Nat.reduceLeDiff, Nat.add_zero, Nat.reduceMul] at f40
      refine AW.dregB mixed hS [(5, some 1), (53, some 1), (56, some 1), (58, some 1), (63, some 1), (66, some 1)] rfl (hpf ▸ (by kernel_rfl : orderOKB pfn [(5, some 1), (53, some 1), (56, some 1), (58, some 1), (63, some 1), (66, some 1)] _ = true)) [(0, as_ s1), (4, .ref 0 0), (5, .ref 1 0)] [.var [as_ [], as_ [], ai 0, ab false], .var [as_ s35, as_ s38, ai (IntKind.wrap .i64 (x6 + 1)), ab true]] ?_ ?_
      · simp -implicitDefEqProofs only [RUNS, qindex, Nat.reduceAdd, Nat.reduceLeDiff, Nat.reduceSub, reduceIte, Nat.reduceEqDiff, Nat.reduceLT, reduceCtorEq, Nat.reduceMul, Nat.reduceBEq, Int.reduceEq, if_true, if_false, eq_self, ne_eq, env_bT, T_3, T_9, T_62, Token.pv_eq, Part.pv_eq, eqT_3, f34.1, f34.2.1, f34l, f34.2.2.2.1, f34e, Int.toNat_natCast, Int.toNat_zero, eqT_9, f37.1, f37.2, f40.1, f40.2, ownT_62]
      exact ⟨(m10, (s35, s38, IntKind.wrap .i64 (x6 + 1), true)), h, (Weak.norm (m := 2) (Nat.le_of_ble_eq_true rfl) ⟨rfl, rfl, rfl, trivial⟩ rfl rfl rfl), Nat.lt_succ_self _⟩
  · replace h := bif_f hb17 h
    refine AW.exit ?_
    refine AW.seq ?_
    refine AW.reg hS [(4, .ref 0 0)] [.var [as_ x4, as_ x5, ai x6, ab x7], .var [as_ x4, as_ x5, ai x6, ab x7]] ?_ ?_
    · simp -implicitDefEqProofs only [RUNS, qindex, Nat.reduceAdd, Nat.reduceLeDiff, Nat.reduceSub, reduceIte, Nat.reduceEqDiff, Nat.reduceLT, reduceCtorEq, Nat.reduceMul, Nat.reduceBEq, Int.reduceEq, if_true, if_false, eq_self, ne_eq, env_bT, T_62, Token.pv_eq, Part.pv_eq]
    refine AW.ret ?_
    cases h
    show finish _ _ _ _ _ = _
    first | rfl | (simp [finish, resOf, renArgs, toPV, selObjs, sl])

set_option maxHeartbeats 4000000 in
theorem g_F37 {O : Orc} (hS : Sound env O) (hpf : O.pf = pfn) (c_F34 : C_F34 O) (c_F40 : C_F40 O) (c_F19 : C_F19 O) (c_F35 : C_F35 O) (s1 : Str) (xat2 : Int) (xend3 : Int) (xname4 : Bool) (xe5 : Int) (xoff6 : Int) (l7 : List Token) (l8 : List Str) (at9 : Int) (end10 : Int) (name11 : Bool) (e12 : Int) (off13 : Int) (o14 : List Token) (o15 : List Str) (h : F37 s1 xat2 xend3 xname4 xe5 xoff6 l7 l8 = some (at9, end10, name11, e12, off13, o14, o15)) : Good env 37 [as_ s1, .agg [ai xat2, .vec 0 l7.length, ai xend3, ab xname4, .vec 1 l8.length, ai xe5, ai xoff6]] [.row 32 4 (List.map Token.pv l7) true, .row 9 1 (List.map PV.str l8) true] [.agg [ai at9, .vec 0 o14.length, ai end10, ab name11, .vec 1 o15.length, ai e12, ai off13]] [.row 32 4 (List.map Token.pv o14) true, .row 9 1 (List.map PV.str o15) true] := by
  have pf_19 : O.pf 19 = false := by rw [hpf]; rfl
  have pf_34 : O.pf 34 = true := by rw [hpf]; rfl
  have pf_35 : O.pf 35 = false := by rw [hpf]; rfl
  have pf_40 : O.pf 40 = true := by rw [hpf]; rfl
  refine Good.start (fn := Tryz.f37) (N := 58) fn_37 rfl rfl (by simp) [] _ rfl rfl ?_
  rw [F37] at h
  refine AW.seq ?_
  refine AW.reg hS [(0, as_ s1), (3, .ref 2 0), (4, .ref 3 0)] [.row 32 4 (List.map Token.pv l7) true, .row 9 1 (List.map PV.str l8) true, .var [ai xat2, .vec 0 l7.length, ai xend3, ab xname4, .vec 1 l8.length, ai xe5, ai xoff6], .var [ai 0, .nils, ai 0, ab false, .nils, ai 0, ai 0]] ?_ ?_
  · simp -implicitDefEqProofs only [RUNS, qindex, Nat.reduceAdd, Nat.reduceLeDiff, Nat.reduceSub, reduceIte, Nat.reduceEqDiff, Nat.reduceLT, reduceCtorEq, Nat.reduceMul, Nat.reduceBEq, Int.reduceEq, if_true, if_false, eq_self, ne_eq, env_bT, T_42, Token.pv_eq, Part.pv_eq]
  refine AW.seq ?_
  refine AW.reg hS [(0, as_ s1), (3, .ref 2 0), (4, .ref 3 0), (5, ai xat2)] [.row 32 4 (List.map Token.pv l7) true, .row 9 1 (List.map PV.str l8) true, .var [ai xat2, .vec 0 l7.length, ai xend3, ab xname4, .vec 1 l8.length, ai xe5, ai xoff6], .var [ai 0, .nils, ai 0, ab false, .nils, ai 0, ai 0]] ?_ ?_
  · simp -implicitDefEqProofs only [RUNS, qindex, Nat.reduceAdd, Nat.reduceLeDiff, Nat.reduceSub, reduceIte, Nat.reduceEqDiff, Nat.reduceLT, reduceCtorEq, Nat.reduceMul, Nat.reduceBEq, Int.reduceEq, if_true, if_false, eq_self, ne_eq, env_bT, T_3, T_42, Token.pv_eq, Part.pv_eq]
  refine AW.seq ?_
  refine AW.reg hS [(0, as_ s1), (3, .ref 2 0), (4, .ref 3 0), (5, ai xat2), (6, ai (IntKind.wrap .i64 (xat2 + 2)))] [.row 32 4 (List.map Token.pv l7) true, .row 9 1 (List.map PV.str l8) true, .var [ai xat2, .vec 0 l7.length, ai xend3, ab xname4, .vec 1 l8.length, ai xe5, ai xoff6], .var [ai 0, .nils, ai 0, ab false, .nils, ai 0, ai 0]] ?_ ?_
  · simp -implicitDefEqProofs only [RUNS, qindex, Nat.reduceAdd, Nat.reduceLeDiff, Nat.reduceSub, reduceIte, Nat.reduceEqDiff, Nat.reduceLT, reduceCtorEq, Nat.reduceMul, Nat.reduceBEq, Int.reduceEq, if_true, if_false, eq_self, ne_eq, env_bT, T_3, Token.pv_eq, Part.pv_eq, eqT_3]
  refine AW.seq ?_
  refine AW.block ?_
  refine AW.weak (Weak.slots (L := [(0, as_ s1), (3, .ref 2 0), (4, .ref 3 0), (5, ai xat2), (6, ai (IntKind.wrap .i64 (xat2 + 2)))]) ⟨rfl, rfl, rfl, rfl, rfl, trivial⟩) ?_
  refine AW.loopI (α := Nat × Int) (fun (_, to16) => ⟨sl [(0, as_ s1), (3, .ref 2 0), (4, .ref 3 0), (5, ai xat2), (6, ai to16)], 58, [.row 32 4 (List.map Token.pv l7) true, .row 9 1 (List.map PV.str l8) true, .var [ai xat2, .vec 0 l7.length, ai xend3, ab xname4, .vec 1 l8.length, ai xe5, ai xoff6], .var [ai 0, .nils, ai 0, ab false, .nils, ai 0, ai 0]]⟩) (fun x => iter (F37_b1 s1 xat2 xend3 xname4 xe5 xoff6 l7 l8) x.1 x.2 = some (at9, end10, name11, e12, off13, o14, o15)) (fun x => x.1) (BIG, IntKind.wrap .i64 (xat2 + 2)) h ?_
  clear h
  intro ⟨n57, to16⟩ h
  replace h := iter_some h; obtain ⟨m19, rfl, h⟩ := h
  rw [F37_b1] at h
  try dsimp only at h
  show AW _ _ _ _ ⟨sl [(0, as_ s1), (3, .ref 2 0), (4, .ref 3 0), (5, ai xat2), (6, ai to16)], 58, [.row 32 4 (List.map Token.pv l7) true, .row 9 1 (List.map PV.str l8) true, .var [ai xat2, .vec 0 l7.length, ai xend3, ab xname4, .vec 1 l8.length, ai xe5, ai xoff6], .var [ai 0, .nils, ai 0, ab false, .nils, ai 0, ai 0]]⟩
  refine AW.seq ?_
  refine AW.seq ?_
  replace h := Option.bind_eq_some_iff.1 h; obtain ⟨r20, q21, h⟩ := h
  have f22 := c_F34 s1 to16 r20 q21
  try dsimp only at f22
  refine AW.reg hS [(0, as_ s1), (3, .ref 2 0), (4, .ref 3 0), (5, ai xat2), (6, ai to16), (15, ab (decide (0 < r20)))] [.row 32 4 (List.map Token.pv l7) true, .row 9 1 (List.map PV.str l8) true, .var [ai xat2, .vec 0 l7.length, ai xend3, ab xname4, .vec 1 l8.length, ai xe5, ai xoff6], .var [ai 0, .nils, ai 0, ab false, .nils, ai 0, ai 0]] ?_ ?_
  · simp -implicitDefEqProofs only [RUNS, qindex, Nat.reduceAdd, Nat.reduceLeDiff, Nat.reduceSub, reduceIte, Nat.reduceEqDiff, Nat.reduceLT, reduceCtorEq, Nat.reduceMul, Nat.reduceBEq, Int.reduceEq, if_true, if_false, eq_self, ne_eq, env_bT, T_3, T_9, Token.pv_eq, Part.pv_eq, pf_34, f22, eqT_3]
  refine AW.cond (b := decide (0 < r20)) rfl (fun hb23 => ?_) (fun hb23 => ?_)
  · replace h := bif_t hb23 h
    refine AW.skip ?_
    refine AW.block ?_
    refine AW.reg hS [(0, as_ s1), (3, .ref 2 0), (4, .ref 3 0), (5, ai xat2), (6, ai (IntKind.wrap .i64 (to16 + r20)))] [.row 32 4 (List.map Token.pv l7) true, .row 9 1 (List.map PV.str l8) true, .var [ai xat2, .vec 0 l7.length, ai xend3, ab xname4, .vec 1 l8.length, ai xe5, ai xoff6], .var [ai 0, .nils, ai 0, ab false, .nils, ai 0, ai 0]] ?_ ?_
    · simp -implicitDefEqProofs only [RUNS, qindex, Nat.reduceAdd, Nat.reduceLeDiff, Nat.reduceSub, reduceIte, Nat.reduceEqDiff, Nat.reduceLT, reduceCtorEq, Nat.reduceMul, Nat.reduceBEq, Int.reduceEq, if_true, if_false, eq_self, ne_eq, env_bT, T_3, T_9, Token.pv_eq, Part.pv_eq, pf_34, f22, eqT_3]
    exact ⟨(m19, IntKind.wrap .i64 (to16 + r20)), h, (Weak.norm (m := 4) (Nat.le_of_ble_eq_true rfl) ⟨rfl, rfl, rfl, rfl, rfl, trivial⟩ rfl rfl rfl), Nat.lt_succ_self _⟩
  · replace h := bif_f hb23 h
    refine AW.exit ?_
    refine AW.seq ?_
    replace h := Option.bind_eq_some_iff.1 h; obtain ⟨r24, q25, h⟩ := h
    have f26 := c_F40 s1 to16 r24 q25
    try dsimp only at f26
    refine AW.reg hS [(3, .ref 2 0), (4, .ref 3 0), (5, ai xat2), (6, ai to16), (7, .ref 4 0)] [.row 32 4 (List.map Token.pv l7) true, .row 9 1 (List.map PV.str l8) true, .var [ai xat2, .vec 0 l7.length, ai xend3, ab xname4, .vec 1 l8.length, ai xe5, ai xoff6], .var [ai 0, .nils, ai 0, ab false, .nils, ai 0, ai 0], .var [as_ r24.text_, as_ r24.quoted_, ai r24.to_, ab r24.ok_]] ?_ ?_
    · simp -implicitDefEqProofs only [RUNS, qindex, Nat.reduceAdd, Nat.reduceLeDiff, Nat.reduceSub, reduceIte, Nat.reduceEqDiff, Nat.reduceLT, reduceCtorEq, Nat.reduceMul, Nat.reduceBEq, Int.reduceEq, if_true, if_false, eq_self, ne_eq, env_bT, T_3, T_9, T_62, Token.pv_eq, Part.pv_eq, pf_40, f26]
    refine AW.seq ?_
    refine AW.seq ?_
    refine AW.reg hS [(3, .ref 2 0), (4, .ref 3 0), (5, ai xat2), (6, ai to16), (7, .ref 4 0), (26, ab (!r24.ok_))] [.row 32 4 (List.map Token.pv l7) true, .row 9 1 (List.map PV.str l8) true, .var [ai xat2, .vec 0 l7.length, ai xend3, ab xname4, .vec 1 l8.length, ai xe5, ai xoff6], .var [ai 0, .nils, ai 0, ab false, .nils, ai 0, ai 0], .var [as_ r24.text_, as_ r24.quoted_, ai r24.to_, ab r24.ok_]] ?_ ?_
    · simp -implicitDefEqProofs only [RUNS, qindex, Nat.reduceAdd, Nat.reduceLeDiff, Nat.reduceSub, reduceIte, Nat.reduceEqDiff, Nat.reduceLT, reduceCtorEq, Nat.reduceMul, Nat.reduceBEq, Int.reduceEq, if_true, if_false, eq_self, ne_eq, env_bT, T_4, T_62, Token.pv_eq, Part.pv_eq]
    refine AW.cond (b := !r24.ok_) rfl (fun hb27 => ?_) (fun hb27 => ?_)
    · replace h := bif_t hb27 h
      refine AW.seq ?_
      replace h := Option.bind_eq_some_iff.1 h; obtain ⟨⟨at28, end29, name30, e31, off32⟩, q33, h⟩ := h
      dsimp only at h
      have f34 := c_F19 xat2 xend3 xname4 xe5 xoff6 48 r24.to_ l7 l8 at28 end29 name30 e31 off32 q33
      try dsimp only at f34
      have e35 : ecall O [.row 32 4 (List.map Token.pv l7) true, .row 9 1 (List.map PV.str l8) true, .var [ai xat2, .vec 0 l7.length, ai xend3, ab xname4, .vec 1 l8.length, ai xe5, ai xoff6], .var [ai 0, .nils, ai 0, ab false, .nils, ai 0, ai 0], .var [as_ r24.text_, as_ r24.quoted_, ai r24.to_, ab r24.ok_]] 19 [.agg [ai xat2, .vec 0 l7.length, ai xend3, ab xname4, .vec 1 l8.length, ai xe5, ai xoff6], ai 48, ai r24.to_] = some (retAV [.agg [ai at28, .vec 0 l7.length, ai end29, ab name30, .vec 1 l8.length, ai e31, ai off32]], [.row 32 4 (List.map Token.pv l7) true, .row 9 1 (List.map PV.str l8) true, .var [ai xat2, .vec 0 l7.length, ai xend3, ab xname4, .vec 1 l8.length, ai xe5, ai xoff6], .var [ai 0, .nils, ai 0, ab false, .nils, ai 0, ai 0], .var [as_ r24.text_, as_ r24.quoted_, ai r24.to_, ab r24.ok_]]) := ecall_eq rfl rfl rfl f34 rfl rfl rfl
      refine AW.reg hS [(4, .ref 3 0)] [.row 32 4 (List.map Token.pv l7) true, .row 9 1 (List.map PV.str l8) true, .var [ai xat2, .vec 0 l7.length, ai xend3, ab xname4, .vec 1 l8.length, ai xe5, ai xoff6], .var [ai at28, .vec 0 l7.length, ai end29, ab name30, .vec 1 l8.length, ai e31, ai off32], .var [as_ r24.text_, as_ r24.quoted_, ai r24.to_, ab r24.ok_]] ?_ ?_
      · simp -implicitDefEqProofs only [RUNS, qindex, Nat.reduceAdd, Nat.reduceLeDiff, Nat.reduceSub, reduceIte, Nat.reduceEqDiff, Nat.reduceLT, reduceCtorEq, Nat.reduceMul, Nat.reduceBEq, Int.reduceEq, if_true, if_false, eq_self, ne_eq, env_bT, T_3, T_24, T_42, T_62, Token.pv_eq, Part.pv_eq, pf_19, e35]
      refine AW.ret ?_
      cases h
      show finish _ _ _ _ _ = _
      first | rfl | (simp [finish, resOf, renArgs, toPV, selObjs, sl])
    · replace h := bif_f hb27 h
      refine AW.skip ?_
      refine AW.seq ?_
      refine AW.seq ?_
      refine AW.reg hS [(3, .ref 2 0), (4, .ref 3 0), (5, ai xat2), (6, ai to16), (7, .ref 4 0), (34, ab (decide (r24.to_ = to16)))] [.row 32 4 (List.map Token.pv l7) true, .row 9 1 (List.map PV.str l8) true, .var [ai xat2, .vec 0 l7.length, ai xend3, ab xname4, .vec 1 l8.length, ai xe5, ai xoff6], .var [ai 0, .nils, ai 0, ab false, .nils, ai 0, ai 0], .var [as_ r24.text_, as_ r24.quoted_, ai r24.to_, ab r24.ok_]] ?_ ?_
      · simp -implicitDefEqProofs only [RUNS, qindex, Nat.reduceAdd, Nat.reduceLeDiff, Nat.reduceSub, reduceIte, Nat.reduceEqDiff, Nat.reduceLT, reduceCtorEq, Nat.reduceMul, Nat.reduceBEq, Int.reduceEq, if_true, if_false, eq_self, ne_eq, env_bT, T_3, T_62, Token.pv_eq, Part.pv_eq, eqT_3]
      refine AW.cond (b := decide (r24.to_ = to16)) rfl (fun hb36 => ?_) (fun hb36 => ?_)
      · replace h := bif_t hb36 h
        refine AW.seq ?_
        replace h := Option.bind_eq_some_iff.1 h; obtain ⟨⟨at37, end38, name39, e40, off41⟩, q42, h⟩ := h
        dsimp only at h
        have f43 := c_F19 xat2 xend3 xname4 xe5 xoff6 47 to16 l7 l8 at37 end38 name39 e40 off41 q42
        try dsimp only at f43
        have e44 : ecall O [.row 32 4 (List.map Token.pv l7) true, .row 9 1 (List.map PV.str l8) true, .var [ai xat2, .vec 0 l7.length, ai xend3, ab xname4, .vec 1 l8.length, ai xe5, ai xoff6], .var [ai 0, .nils, ai 0, ab false, .nils, ai 0, ai 0], .var [as_ r24.text_, as_ r24.quoted_, ai r24.to_, ab r24.ok_]] 19 [.agg [ai xat2, .vec 0 l7.length, ai xend3, ab xname4, .vec 1 l8.length, ai xe5, ai xoff6], ai 47, ai to16] = some (retAV [.agg [ai at37, .vec 0 l7.length, ai end38, ab name39, .vec 1 l8.length, ai e40, ai off41]], [.row 32 4 (List.map Token.pv l7) true, .row 9 1 (List.map PV.str l8) true, .var [ai xat2, .vec 0 l7.length, ai xend3, ab xname4, .vec 1 l8.length, ai xe5, ai xoff6], .var [ai 0, .nils, ai 0, ab false, .nils, ai 0, ai 0], .var [as_ r24.text_, as_ r24.quoted_, ai r24.to_, ab r24.ok_]]) := ecall_eq rfl rfl rfl f43 rfl rfl rfl
        refine AW.reg hS [(4, .ref 3 0)] [.row 32 4 (List.map Token.pv l7) true, .row 9 1 (List.map PV.str l8) true, .var [ai xat2, .vec 0 l7.length, ai xend3, ab xname4, .vec 1 l8.length, ai xe5, ai xoff6], .var [ai at37, .vec 0 l7.length, ai end38, ab name39, .vec 1 l8.length, ai e40, ai off41], .var [as_ r24.text_, as_ r24.quoted_, ai r24.to_, ab r24.ok_]] ?_ ?_
        · simp -implicitDefEqProofs only [RUNS, qindex, Nat.reduceAdd, Nat.reduceLeDiff, Nat.reduceSub, reduceIte, Nat.reduceEqDiff, Nat.reduceLT, reduceCtorEq, Nat.reduceMul, Nat.reduceBEq, Int.reduceEq, if_true, if_false, eq_self, ne_eq, env_bT, T_3, T_24, T_42, Token.pv_eq, Part.pv_eq, pf_19, e44]
        refine AW.ret ?_
        cases h
        show finish _ _ _ _ _ = _
        first | rfl | (simp [finish, resOf, renArgs, toPV, selObjs, sl])
      · replace h := bif_f hb36 h
        refine AW.skip ?_
        refine AW.seq ?_
        replace h := Option.bind_eq_some_iff.1 h; obtain ⟨⟨at45, end46, name47, e48, off49, o50⟩, q51, h⟩ := h
        dsimp only at h
        have f52 := c_F35 xat2 xend3 xname4 xe5 xoff6 (Token.mk 4 xat2 r24.text_ r24.quoted_) l7 l8 at45 end46 name47 e48 off49 o50 q51
        try dsimp only at f52
        have e53 : ecall O [.row 32 4 (List.map Token.pv l7) true, .row 9 1 (List.map PV.str l8) true, .var [ai xat2, .vec 0 l7.length, ai xend3, ab xname4, .vec 1 l8.length, ai xe5, ai xoff6], .var [ai 0, .nils, ai 0, ab false, .nils, ai 0, ai 0], .var [as_ r24.text_, as_ r24.quoted_, ai r24.to_, ab r24.ok_]] 35 [.agg [ai xat2, .vec 0 l7.length, ai xend3, ab xname4, .vec 1 l8.length, ai xe5, ai xoff6], .pv (.agg [.int .i64 4, .int .i64 xat2, .str r24.text_, .str r24.quoted_])] = some (retAV [.agg [ai at45, .vec 0 o50.length, ai end46, ab name47, .vec 1 l8.length, ai e48, ai off49]], [.row 32 4 (List.map Token.pv o50) true, .row 9 1 (List.map PV.str l8) true, .var [ai xat2, .vec 0 l7.length, ai xend3, ab xname4, .vec 1 l8.length, ai xe5, ai xoff6], .var [ai 0, .nils, ai 0, ab false, .nils, ai 0, ai 0], .var [as_ r24.text_, as_ r24.quoted_, ai r24.to_, ab r24.ok_]]) := ecall_eq rfl rfl rfl f52 rfl rfl rfl
        refine AW.reg hS [(3, .ref 2 0), (4, .ref 3 0), (7, .ref 4 0)] [.row 32 4 (List.map Token.pv o50) true, .row 9 1 (List.map PV.str l8) true, .var [ai at45, .vec 0 o50.length, ai end46, ab name47, .vec 1 l8.length, ai e48, ai off49], .var [ai 0, .nils, ai 0, ab false, .nils, ai 0, ai 0], .var [as_ r24.text_, as_ r24.quoted_, ai r24.to_, ab r24.ok_]] ?_ ?_
        · simp -implicitDefEqProofs only [RUNS, qindex, Nat.reduceAdd, Nat.reduceLeDiff, Nat.reduceSub, reduceIte, Nat.reduceEqDiff, Nat.reduceLT, reduceCtorEq, Nat.reduceMul, Nat.reduceBEq, Int.reduceEq, if_true, if_false, eq_self, ne_eq, env_bT, T_9, T_32, T_42, T_62, Token.pv_eq, Part.pv_eq, ownT_32, pf_35, e53]
        refine AW.seq ?_
        replace h := Option.bind_eq_some_iff.1 h; obtain ⟨out54, q55, h⟩ := h
        have f56 := appO_f q55
        try simp only [List.length_cons, List.length_nil, Nat.zero_add, Nat.reduceAdd, Nat.reduceLeDiff, Nat.add_zero, Nat.reduceMul] at f56
        refine AW.reg hS [(3, .ref 2 0), (4, .ref 3 0), (7, .ref 4 0)] [.row 32 4 (List.map Token.pv o50) true, .row 9 1 (List.map PV.str out54) true, .var [ai at45, .vec 0 o50.length, ai end46, ab name47, .vec 1 out54.length, ai e48, ai off49], .var [ai 0, .nils, ai 0, ab false, .nils, ai 0, ai 0], .var [as_ r24.text_, as_ r24.quoted_, ai r24.to_, ab r24.ok_]] ?_ ?_
        · simp -implicitDefEqProofs only [RUNS, qindex, Nat.reduceAdd, Nat.reduceLeDiff, Nat.reduceSub, reduceIte, Nat.reduceEqDiff, Nat.reduceLT, reduceCtorEq, Nat.reduceMul, Nat.reduceBEq, Int.reduceEq, if_true, if_false, eq_self, ne_eq, env_bT, T_9, T_35, T_42, T_62, Token.pv_eq, Part.pv_eq, ownT_35, f56.1, f56.2, str_all] <;> (try simp only [List.length_take, List.length_drop, List.length_map])
        clear f56
        refine AW.seq ?_
        refine AW.reg hS [(3, .ref 2 0), (4, .ref 3 0)] [.row 32 4 (List.map Token.pv o50) true, .row 9 1 (List.map PV.str out54) true, .var [ai r24.to_, .vec 0 o50.length, ai end46, ab name47, .vec 1 out54.length, ai e48, ai off49], .var [ai 0, .nils, ai 0, ab false, .nils, ai 0, ai 0], .var [as_ r24.text_, as_ r24.quoted_, ai r24.to_, ab r24.ok_]] ?_ ?_
        · simp -implicitDefEqProofs only [RUNS, qindex, Nat.reduceAdd, Nat.reduceLeDiff, Nat.reduceSub, reduceIte, Nat.reduceEqDiff, Nat.reduceLT, reduceCtorEq, Nat.reduceMul, Nat.reduceBEq, Int.reduceEq, if_true, if_false, eq_self, ne_eq, env_bT, T_3, T_42, T_62, Token.pv_eq, Part.pv_eq]
        refine AW.seq ?_
        refine AW.reg hS [(3, .ref 2 0), (4, .ref 3 0)] [.row 32 4 (List.map Token.pv o50) true, .row 9 1 (List.map PV.str out54) true, .var [ai r24.to_, .vec 0 o50.length, ai (-1), ab name47, .vec 1 out54.length, ai e48, ai off49], .var [ai 0, .nils, ai 0, ab false, .nils, ai 0, ai 0], .var [as_ r24.text_, as_ r24.quoted_, ai r24.to_, ab r24.ok_]] ?_ ?_
        · simp -implicitDefEqProofs only [RUNS, qindex, Nat.reduceAdd, Nat.reduceLeDiff, Nat.reduceSub, reduceIte, Nat.reduceEqDiff, Nat.reduceLT, reduceCtorEq, Nat.reduceMul, Nat.reduceBEq, Int.reduceEq, if_true, if_false, eq_self, ne_eq, env_bT, T_3, T_42, Token.pv_eq, Part.pv_eq]
        refine AW.seq ?_
        refine AW.reg hS [(4, .ref 3 0)] [.row 32 4 (List.map Token.pv o50) true, .row 9 1 (List.map PV.str out54) true, .var [ai r24.to_, .vec 0 o50.length, ai (-1), ab name47, .vec 1 out54.length, ai e48, ai off49], .var [ai r24.to_, .vec 0 o50.length, ai (-1), ab name47, .vec 1 out54.length, ai e48, ai off49], .var [as_ r24.text_, as_ r24.quoted_, ai r24.to_, ab r24.ok_]] ?_ ?_
        · simp -implicitDefEqProofs only [RUNS, qindex, Nat.reduceAdd, Nat.reduceLeDiff, Nat.reduceSub, reduceIte, Nat.reduceEqDiff, Nat.reduceLT, reduceCtorEq, Nat.reduceMul, Nat.reduceBEq, Int.reduceEq, if_true, if_false, eq_self, ne_eq, env_bT, T_42, Token.pv_eq, Part.pv_eq]
        refine AW.ret ?_
        cases h
        show finish _ _ _ _ _ = _
        first | rfl | (simp [finish, resOf, renArgs, toPV, selObjs, sl])

set_option maxHeartbeats 4000000 in
theorem g_F68 {O : Orc} (hS : Sound env O) (hpf : O.pf = pfn) (s1 : Str) (at2 : Int) (r3 : Int) (h : F68 s1 at2 = some r3) : Good env 68 [as_ s1, ai at2] [] [ai r3] [] := by
  refine Good.start (fn := Tryz.f68) (N := 60) fn_68 rfl rfl (by simp) [] _ rfl rfl ?_
  rw [F68] at h
  refine AW.seq ?_
  refine AW.reg hS [(0, as_ s1), (1, ai at2)] [] ?_ ?_
  · simp -implicitDefEqProofs only [RUNS, qindex, Nat.reduceAdd, Nat.reduceLeDiff, Nat.reduceSub, reduceIte, Nat.reduceEqDiff, Nat.reduceLT, reduceCtorEq, Nat.reduceMul, Nat.reduceBEq, Int.reduceEq, if_true, if_false, eq_self, ne_eq, env_bT, Token.pv_eq, Part.pv_eq]
  refine AW.seq ?_
  refine AW.reg hS [(0, as_ s1), (1, ai at2), (5, ai 0), (6, ai at2)] [] ?_ ?_
  · simp -implicitDefEqProofs only [RUNS, qindex, Nat.reduceAdd, Nat.reduceLeDiff, Nat.reduceSub, reduceIte, Nat.reduceEqDiff, Nat.reduceLT, reduceCtorEq, Nat.reduceMul, Nat.reduceBEq, Int.reduceEq, if_true, if_false, eq_self, ne_eq, env_bT, Token.pv_eq, Part.pv_eq]
  refine AW.seq ?_
  refine AW.block ?_
  refine AW.weak (Weak.slots (L := [(0, as_ s1), (1, ai at2), (5, ai 0), (6, ai at2)]) ⟨rfl, rfl, rfl, rfl, trivial⟩) ?_
  refine AW.loopI (α := Nat × Int × Int) (fun (_, n4, to5) => ⟨sl [(0, as_ s1), (1, ai at2), (5, ai n4), (6, ai to5)], 60, []⟩) (fun x => iter (F68_b1 s1 at2) x.1 x.2 = some r3) (fun x => x.1) (BIG, (0, at2)) h ?_
  clear h
  intro ⟨n20, n4, to5⟩ h
  replace h := iter_some h; obtain ⟨m8, rfl, h⟩ := h
  rw [F68_b1] at h
  try dsimp only at h
  show AW _ _ _ _ ⟨sl [(0, as_ s1), (1, ai at2), (5, ai n4), (6, ai to5)], 60, []⟩
  refine AW.seq ?_
  refine AW.seq ?_
  replace h := Option.bind_eq_some_iff.1 h; obtain ⟨c9, q10, h⟩ := h
  have f11 := sidx_g (guardO_t q10)
  refine AW.reg hS [(0, as_ s1), (1, ai at2), (5, ai n4), (6, ai to5), (29, ab (((decide (to5 < (s1.length : Int)) && decide (48 ≤ c9)) && decide (c9 ≤ 57)) && decide (to5 < IntKind.wrap .i64 (at2 + 3))))] [] ?_ ?_
  · clear h
    (simp -implicitDefEqProofs only [RUNS, qindex, Nat.reduceAdd, Nat.reduceLeDiff, Nat.reduceSub, reduceIte, Nat.reduceEqDiff, Nat.reduceLT, reduceCtorEq, Nat.reduceMul, Nat.reduceBEq, Int.reduceEq, if_true, if_false, eq_self, ne_eq, env_bT, T_3, T_5, T_9, Token.pv_eq, Part.pv_eq, eqT_3, f11.1, f11.2.1, f11.2.2, eqT_5]); repeat' (split <;> rename_i hb <;> (try simp only [HBS, ge_iff_le, gt_iff_lt] at hb) <;> simp -implicitDefEqProofs only [RUNS, qindex, Nat.reduceAdd, Nat.reduceLeDiff, Nat.reduceSub, reduceIte, Nat.reduceEqDiff, Nat.reduceLT, reduceCtorEq, Nat.reduceMul, Nat.reduceBEq, Int.reduceEq, if_true, if_false, eq_self, ne_eq, env_bT, T_3, T_5, T_9, Token.pv_eq, Part.pv_eq, eqT_3, f11.1, f11.2.1, f11.2.2, eqT_5, *, decide_true, decide_false, Decidable.not_not, not_false_eq_true, not_true_eq_false])
    all_goals (first | (simp only [BOOLS]; done) | (simp [*]; done) | ((try simp only [CLOS, beq_iff_eq, bne_iff_ne, ne_eq] at *) <;> omega) | (simp_all; done) | (simp_all <;> omega))
  refine AW.cond (b := (((decide (to5 < (s1.length : Int)) && decide (48 ≤ c9)) && decide (c9 ≤ 57)) && decide (to5 < IntKind.wrap .i64 (at2 + 3)))) rfl (fun hb12 => ?_) (fun hb12 => ?_)
  · replace h := bif_t hb12 h
    refine AW.skip ?_
    refine AW.block ?_
    refine AW.seq ?_
    replace h := Option.bind_eq_some_iff.1 h; obtain ⟨c13, q14, h⟩ := h
    have f15 := sidx_f q14
    refine AW.reg hS [(0, as_ s1), (1, ai at2), (5, ai (IntKind.wrap .i64 ((IntKind.wrap .i64 (10 * n4)) + (IntKind.wrap .i64 (IntKind.wrap .u8 (c13 - 48)))))), (6, ai to5)] [] ?_ ?_
    · simp -implicitDefEqProofs only [RUNS, qindex, Nat.reduceAdd, Nat.reduceLeDiff, Nat.reduceSub, reduceIte, Nat.reduceEqDiff, Nat.reduceLT, reduceCtorEq, Nat.reduceMul, Nat.reduceBEq, Int.reduceEq, if_true, if_false, eq_self, ne_eq, env_bT, T_3, T_5, T_9, Token.pv_eq, Part.pv_eq, eqT_3, f15.1, f15.2.1, f15.2.2, eqT_5, qconv_ii T_5 T_3]
    refine AW.reg hS [(0, as_ s1), (1, ai at2), (5, ai (IntKind.wrap .i64 ((IntKind.wrap .i64 (10 * n4)) + (IntKind.wrap .i64 (IntKind.wrap .u8 (c13 - 48)))))), (6, ai (IntKind.wrap .i64 (to5 + 1)))] [] ?_ ?_
    · simp -implicitDefEqProofs only [RUNS, qindex, Nat.reduceAdd, Nat.reduceLeDiff, Nat.reduceSub, reduceIte, Nat.reduceEqDiff, Nat.reduceLT, reduceCtorEq, Nat.reduceMul, Nat.reduceBEq, Int.reduceEq, if_true, if_false, eq_self, ne_eq, env_bT, T_3, Token.pv_eq, Part.pv_eq, eqT_3]
    exact ⟨(m8, (IntKind.wrap .i64 ((IntKind.wrap .i64 (10 * n4)) + (IntKind.wrap .i64 (IntKind.wrap .u8 (c13 - 48)))), IntKind.wrap .i64 (to5 + 1))), h, (Weak.norm (m := 0) (Nat.le_of_ble_eq_true rfl) ⟨rfl, rfl, rfl, rfl, trivial⟩ rfl rfl rfl), Nat.lt_succ_self _⟩
  · replace h := bif_f hb12 h
    refine AW.exit ?_
    refine AW.seq ?_
    refine AW.seq ?_
    replace h := Option.bind_eq_some_iff.1 h; obtain ⟨c16, q17, h⟩ := h
    have f18 := sidx_g (guardO_t q17)
    refine AW.reg hS [(6, ai to5), (58, ab ((decide (to5 = at2) || decide (64 ≤ n4)) || (decide (IntKind.wrap .i64 (at2 + 1) < to5) && decide (c16 = 48))))] [] ?_ ?_
    · clear h
      (simp -implicitDefEqProofs only [RUNS, qindex, Nat.reduceAdd, Nat.reduceLeDiff, Nat.reduceSub, reduceIte, Nat.reduceEqDiff, Nat.reduceLT, reduceCtorEq, Nat.reduceMul, Nat.reduceBEq, Int.reduceEq, if_true, if_false, eq_self, ne_eq, env_bT, T_3, T_5, T_9, Token.pv_eq, Part.pv_eq, eqT_3, f18.1, f18.2.1, f18.2.2, eqT_5]); repeat' (split <;> rename_i hb <;> (try simp only [HBS, ge_iff_le, gt_iff_lt] at hb) <;> simp -implicitDefEqProofs only [RUNS, qindex, Nat.reduceAdd, Nat.reduceLeDiff, Nat.reduceSub, reduceIte, Nat.reduceEqDiff, Nat.reduceLT, reduceCtorEq, Nat.reduceMul, Nat.reduceBEq, Int.reduceEq, if_true, if_false, eq_self, ne_eq, env_bT, T_3, T_5, T_9, Token.pv_eq, Part.pv_eq, eqT_3, f18.1, f18.2.1, f18.2.2, eqT_5, *, decide_true, decide_false, Decidable.not_not, not_false_eq_true, not_true_eq_false])
      all_goals (first | (simp only [BOOLS]; done) | (simp [*]; done) | ((try simp only [CLOS, beq_iff_eq, bne_iff_ne, ne_eq] at *) <;> omega) | (simp_all; done) | (simp_all <;> omega))
    refine AW.cond (b := ((decide (to5 = at2) || decide (64 ≤ n4)) || (decide (IntKind.wrap .i64 (at2 + 1) < to5) && decide (c16 = 48)))) rfl (fun hb19 => ?_) (fun hb19 => ?_)
    · replace h := bif_t hb19 h
      refine AW.seq ?_
      refine AW.reg hS [(4, ai (-1))] [] ?_ ?_
      · simp -implicitDefEqProofs only [RUNS, qindex, Nat.reduceAdd, Nat.reduceLeDiff, Nat.reduceSub, reduceIte, Nat.reduceEqDiff, Nat.reduceLT, reduceCtorEq, Nat.reduceMul, Nat.reduceBEq, Int.reduceEq, if_true, if_false, eq_self, ne_eq, env_bT, Token.pv_eq, Part.pv_eq]
      refine AW.ret ?_
      cases h
      show finish _ _ _ _ _ = _
      first | rfl | (simp [finish, resOf, renArgs, toPV, selObjs, sl])
    · replace h := bif_f hb19 h
      refine AW.skip ?_
      refine AW.seq ?_
      refine AW.reg hS [(4, ai to5)] [] ?_ ?_
      · simp -implicitDefEqProofs only [RUNS, qindex, Nat.reduceAdd, Nat.reduceLeDiff, Nat.reduceSub, reduceIte, Nat.reduceEqDiff, Nat.reduceLT, reduceCtorEq, Nat.reduceMul, Nat.reduceBEq, Int.reduceEq, if_true, if_false, eq_self, ne_eq, env_bT, Token.pv_eq, Part.pv_eq]
      refine AW.ret ?_
      cases h
      show finish _ _ _ _ _ = _
      first | rfl | (simp [finish, resOf, renArgs, toPV, selObjs, sl])

set_option maxHeartbeats 4000000 in
theorem g_F56 {O : Orc} (hS : Sound env O) (hpf : O.pf = pfn) (c_F68 : C_F68 O) (s1 : Str) (at2 : Int) (equal3 : Bool) (r4 : Int) (h : F56 s1 at2 equal3 = some r4) : Good env 56 [as_ s1, ai at2, ab equal3] [] [ai r4] [] := by
  have pf_68 : O.pf 68 = true := by rw [hpf]; rfl
  refine Good.start (fn := Tryz.f56) (N := 60) fn_56 rfl rfl (by simp) [] _ rfl rfl ?_
  rw [F56] at h
  refine AW.seq ?_
  refine AW.reg hS [(0, as_ s1), (1, ai at2), (2, ab equal3)] [] ?_ ?_
  · simp -implicitDefEqProofs only [RUNS, qindex, Nat.reduceAdd, Nat.reduceLeDiff, Nat.reduceSub, reduceIte, Nat.reduceEqDiff, Nat.reduceLT, reduceCtorEq, Nat.reduceMul, Nat.reduceBEq, Int.reduceEq, if_true, if_false, eq_self, ne_eq, env_bT, Token.pv_eq, Part.pv_eq]
  refine AW.seq ?_
  replace h := Option.bind_eq_some_iff.1 h; obtain ⟨r5, q6, h⟩ := h
  have f7 := c_F68 s1 (IntKind.wrap .i64 (at2 + 1)) r5 q6
  try dsimp only at f7
  refine AW.reg hS [(0, as_ s1), (2, ab equal3), (7, ai r5)] [] ?_ ?_
  · simp -implicitDefEqProofs only [RUNS, qindex, Nat.reduceAdd, Nat.reduceLeDiff, Nat.reduceSub, reduceIte, Nat.reduceEqDiff, Nat.reduceLT, reduceCtorEq, Nat.reduceMul, Nat.reduceBEq, Int.reduceEq, if_true, if_false, eq_self, ne_eq, env_bT, T_3, T_9, Token.pv_eq, Part.pv_eq, eqT_3, pf_68, f7]
  refine AW.seqJ (α := Int) (fun to8 => ⟨sl [(0, as_ s1), (7, ai to8)], 60, []⟩) (fun x => F56_j1 s1 x = some r4) ?_ ?_
  · intro to8 h
    rw [F56_j1] at h
    try dsimp only at h
    show AW _ _ _ _ ⟨sl [(0, as_ s1), (7, ai to8)], 60, []⟩
    refine AW.seq ?_
    refine AW.seq ?_
    replace h := Option.bind_eq_some_iff.1 h; obtain ⟨c9, q10, h⟩ := h
    have f11 := sidx_g (guardO_t q10)
    refine AW.reg hS [(7, ai to8), (57, ab ((decide (to8 < 0) || decide ((s1.length : Int) ≤ to8)) || !decide (c9 = 93)))] [] ?_ ?_
    · clear h
      (simp -implicitDefEqProofs only [RUNS, qindex, Nat.reduceAdd, Nat.reduceLeDiff, Nat.reduceSub, reduceIte, Nat.reduceEqDiff, Nat.reduceLT, reduceCtorEq, Nat.reduceMul, Nat.reduceBEq, Int.reduceEq, if_true, if_false, eq_self, ne_eq, env_bT, T_3, T_5, T_9, Token.pv_eq, Part.pv_eq, eqT_3, f11.1, f11.2.1, f11.2.2, eqT_5]); repeat' (split <;> rename_i hb <;> (try simp only [HBS, ge_iff_le, gt_iff_lt] at hb) <;> simp -implicitDefEqProofs only [RUNS, qindex, Nat.reduceAdd, Nat.reduceLeDiff, Nat.reduceSub, reduceIte, Nat.reduceEqDiff, Nat.reduceLT, reduceCtorEq, Nat.reduceMul, Nat.reduceBEq, Int.reduceEq, if_true, if_false, eq_self, ne_eq, env_bT, T_3, T_5, T_9, Token.pv_eq, Part.pv_eq, eqT_3, f11.1, f11.2.1, f11.2.2, eqT_5, *, decide_true, decide_false, Decidable.not_not, not_false_eq_true, not_true_eq_false])
      all_goals (first | (simp only [BOOLS]; done) | (simp [*]; done) | ((try simp only [CLOS, beq_iff_eq, bne_iff_ne, ne_eq] at *) <;> omega) | (simp_all; done) | (simp_all <;> omega))
    refine AW.cond (b := ((decide (to8 < 0) || decide ((s1.length : Int) ≤ to8)) || !decide (c9 = 93))) rfl (fun hb12 => ?_) (fun hb12 => ?_)
    · replace h := bif_t hb12 h
      refine AW.seq ?_
      refine AW.reg hS [(6, ai (-1))] [] ?_ ?_
      · simp -implicitDefEqProofs only [RUNS, qindex, Nat.reduceAdd, Nat.reduceLeDiff, Nat.reduceSub, reduceIte, Nat.reduceEqDiff, Nat.reduceLT, reduceCtorEq, Nat.reduceMul, Nat.reduceBEq, Int.reduceEq, if_true, if_false, eq_self, ne_eq, env_bT, Token.pv_eq, Part.pv_eq]
      refine AW.ret ?_
      cases h
      show finish _ _ _ _ _ = _
      first | rfl | (simp [finish, resOf, renArgs, toPV, selObjs, sl])
    · replace h := bif_f hb12 h
      refine AW.skip ?_
      refine AW.seq ?_
      refine AW.reg hS [(6, ai (IntKind.wrap .i64 (to8 + 1)))] [] ?_ ?_
      · simp -implicitDefEqProofs only [RUNS, qindex, Nat.reduceAdd, Nat.reduceLeDiff, Nat.reduceSub, reduceIte, Nat.reduceEqDiff, Nat.reduceLT, reduceCtorEq, Nat.reduceMul, Nat.reduceBEq, Int.reduceEq, if_true, if_false, eq_self, ne_eq, env_bT, T_3, Token.pv_eq, Part.pv_eq, eqT_3]
      refine AW.ret ?_
      cases h
      show finish _ _ _ _ _ = _
      first | rfl | (simp [finish, resOf, renArgs, toPV, selObjs, sl])
  refine AW.seq ?_
  replace h := Option.bind_eq_some_iff.1 h; obtain ⟨c13, q14, h⟩ := h
  have f15 := sidx_g (guardO_t q14)
  refine AW.reg hS [(0, as_ s1), (7, ai r5), (28, ab (((decide (0 ≤ r5) && decide (r5 < (s1.length : Int))) && decide (c13 = 61)) && equal3))] [] ?_ ?_
  · clear h
    (simp -implicitDefEqProofs only [RUNS, qindex, Nat.reduceAdd, Nat.reduceLeDiff, Nat.reduceSub, reduceIte, Nat.reduceEqDiff, Nat.reduceLT, reduceCtorEq, Nat.reduceMul, Nat.reduceBEq, Int.reduceEq, if_true, if_false, eq_self, ne_eq, env_bT, T_3, T_5, T_9, Token.pv_eq, Part.pv_eq, eqT_3, f15.1, f15.2.1, f15.2.2, eqT_5]); repeat' (split <;> rename_i hb <;> (try simp only [HBS, ge_iff_le, gt_iff_lt] at hb) <;> simp -implicitDefEqProofs only [RUNS, qindex, Nat.reduceAdd, Nat.reduceLeDiff, Nat.reduceSub, reduceIte, Nat.reduceEqDiff, Nat.reduceLT, reduceCtorEq, Nat.reduceMul, Nat.reduceBEq, Int.reduceEq, if_true, if_false, eq_self, ne_eq, env_bT, T_3, T_5, T_9, Token.pv_eq, Part.pv_eq, eqT_3, f15.1, f15.2.1, f15.2.2, eqT_5, *, decide_true, decide_false, Decidable.not_not, not_false_eq_true, not_true_eq_false])
    all_goals (first | (simp only [BOOLS]; done) | (simp [*]; done) | ((try simp only [CLOS, beq_iff_eq, bne_iff_ne, ne_eq] at *) <;> omega) | (simp_all; done) | (simp_all <;> omega))
  refine AW.cond (b := (((decide (0 ≤ r5) && decide (r5 < (s1.length : Int))) && decide (c13 = 61)) && equal3)) rfl (fun hb16 => ?_) (fun hb16 => ?_)
  · replace h := bif_t hb16 h
    refine AW.seq ?_
    refine AW.reg hS [(0, as_ s1), (7, ai (IntKind.wrap .i64 (r5 + 1)))] [] ?_ ?_
    · simp -implicitDefEqProofs only [RUNS, qindex, Nat.reduceAdd, Nat.reduceLeDiff, Nat.reduceSub, reduceIte, Nat.reduceEqDiff, Nat.reduceLT, reduceCtorEq, Nat.reduceMul, Nat.reduceBEq, Int.reduceEq, if_true, if_false, eq_self, ne_eq, env_bT, T_3, Token.pv_eq, Part.pv_eq, eqT_3]
    refine AW.seq ?_
    replace h := Option.bind_eq_some_iff.1 h; obtain ⟨c17, q18, h⟩ := h
    have f19 := sidx_g (guardO_t q18)
    refine AW.reg hS [(0, as_ s1), (7, ai (IntKind.wrap .i64 (r5 + 1))), (40, ab (decide (IntKind.wrap .i64 (r5 + 1) < (s1.length : Int)) && !decide (c17 = 93)))] [] ?_ ?_
    · clear h
      (simp -implicitDefEqProofs only [RUNS, qindex, Nat.reduceAdd, Nat.reduceLeDiff, Nat.reduceSub, reduceIte, Nat.reduceEqDiff, Nat.reduceLT, reduceCtorEq, Nat.reduceMul, Nat.reduceBEq, Int.reduceEq, if_true, if_false, eq_self, ne_eq, env_bT, T_3, T_5, T_9, Token.pv_eq, Part.pv_eq, eqT_3, f19.1, f19.2.1, f19.2.2, eqT_5]); repeat' (split <;> rename_i hb <;> (try simp only [HBS, ge_iff_le, gt_iff_lt] at hb) <;> simp -implicitDefEqProofs only [RUNS, qindex, Nat.reduceAdd, Nat.reduceLeDiff, Nat.reduceSub, reduceIte, Nat.reduceEqDiff, Nat.reduceLT, reduceCtorEq, Nat.reduceMul, Nat.reduceBEq, Int.reduceEq, if_true, if_false, eq_self, ne_eq, env_bT, T_3, T_5, T_9, Token.pv_eq, Part.pv_eq, eqT_3, f19.1, f19.2.1, f19.2.2, eqT_5, *, decide_true, decide_false, Decidable.not_not, not_false_eq_true, not_true_eq_false])
      all_goals (first | (simp only [BOOLS]; done) | (simp [*]; done) | ((try simp only [CLOS, beq_iff_eq, bne_iff_ne, ne_eq] at *) <;> omega) | (simp_all; done) | (simp_all <;> omega))
    refine AW.cond (b := (decide (IntKind.wrap .i64 (r5 + 1) < (s1.length : Int)) && !decide (c17 = 93))) rfl (fun hb20 => ?_) (fun hb20 => ?_)
    · replace h := bif_t hb20 h
      replace h := Option.bind_eq_some_iff.1 h; obtain ⟨r21, q22, h⟩ := h
      have f23 := c_F68 s1 (IntKind.wrap .i64 (r5 + 1)) r21 q22
      try dsimp only at f23
      refine AW.reg hS [(0, as_ s1), (7, ai r21)] [] ?_ ?_
      · simp -implicitDefEqProofs only [RUNS, qindex, Nat.reduceAdd, Nat.reduceLeDiff, Nat.reduceSub, reduceIte, Nat.reduceEqDiff, Nat.reduceLT, reduceCtorEq, Nat.reduceMul, Nat.reduceBEq, Int.reduceEq, if_true, if_false, eq_self, ne_eq, env_bT, T_3, T_9, Token.pv_eq, Part.pv_eq, pf_68, f23]
      exact ⟨r21, h, (Weak.norm (m := 0) (Nat.le_of_ble_eq_true rfl) ⟨rfl, rfl, trivial⟩ rfl rfl rfl)⟩
    · replace h := bif_f hb20 h
      refine AW.skip ?_
      exact ⟨IntKind.wrap .i64 (r5 + 1), h, (Weak.norm (m := 0) (Nat.le_of_ble_eq_true rfl) ⟨rfl, rfl, trivial⟩ rfl rfl rfl)⟩
  · replace h := bif_f hb16 h
    refine AW.skip ?_
    exact ⟨r5, h, (Weak.norm (m := 0) (Nat.le_of_ble_eq_true rfl) ⟨rfl, rfl, trivial⟩ rfl rfl rfl)⟩

set_option maxHeartbeats 4000000 in
theorem g_F38 {O : Orc} (hS : Sound env O) (hpf : O.pf = pfn) (c_F55 : C_F55 O) (c_F56 : C_F56 O) (s1 : Str) (at2 : Int) (r3 : Int) (h : F38 s1 at2 = some r3) : Good env 38 [as_ s1, ai at2] [] [ai r3] [] := by
  have pf_55 : O.pf 55 = true := by rw [hpf]; rfl
  have pf_56 : O.pf 56 = true := by rw [hpf]; rfl
  refine Good.start (fn := Tryz.f38) (N := 65) fn_38 rfl rfl (by simp) [] _ rfl rfl ?_
  rw [F38] at h
  refine AW.seq ?_
  refine AW.reg hS [(0, as_ s1), (1, ai at2)] [] ?_ ?_
  · simp -implicitDefEqProofs only [RUNS, qindex, Nat.reduceAdd, Nat.reduceLeDiff, Nat.reduceSub, reduceIte, Nat.reduceEqDiff, Nat.reduceLT, reduceCtorEq, Nat.reduceMul, Nat.reduceBEq, Int.reduceEq, if_true, if_false, eq_self, ne_eq, env_bT, Token.pv_eq, Part.pv_eq]
  refine AW.seq ?_
  refine AW.reg hS [(0, as_ s1), (1, ai at2), (5, as_ [])] [] ?_ ?_
  · simp -implicitDefEqProofs only [RUNS, qindex, Nat.reduceAdd, Nat.reduceLeDiff, Nat.reduceSub, reduceIte, Nat.reduceEqDiff, Nat.reduceLT, reduceCtorEq, Nat.reduceMul, Nat.reduceBEq, Int.reduceEq, if_true, if_false, eq_self, ne_eq, env_bT, Token.pv_eq, Part.pv_eq]
  refine AW.seqJ (α := Str) (fun two4 => ⟨sl [(0, as_ s1), (1, ai at2), (5, as_ two4)], 65, []⟩) (fun x => F38_j1 at2 s1 x = some r3) ?_ ?_
  · intro two4 h
    rw [F38_j1] at h
    try dsimp only at h
    show AW _ _ _ _ ⟨sl [(0, as_ s1), (1, ai at2), (5, as_ two4)], 65, []⟩
    refine AW.seq ?_
    refine AW.seq ?_
    refine AW.reg hS [(0, as_ s1), (1, ai at2), (5, as_ two4), (26, ab ((decide (two4 = [38, 38]) || decide (two4 = [124, 124])) || decide (two4 = [36, 35])))] [] ?_ ?_
    · clear h
      (simp -implicitDefEqProofs only [RUNS, qindex, Nat.reduceAdd, Nat.reduceLeDiff, Nat.reduceSub, reduceIte, Nat.reduceEqDiff, Nat.reduceLT, reduceCtorEq, Nat.reduceMul, Nat.reduceBEq, Int.reduceEq, if_true, if_false, eq_self, ne_eq, env_bT, T_9, Token.pv_eq, Part.pv_eq, eqT_9]); repeat' (split <;> rename_i hb <;> (try simp only [HBS, ge_iff_le, gt_iff_lt] at hb) <;> simp -implicitDefEqProofs only [RUNS, qindex, Nat.reduceAdd, Nat.reduceLeDiff, Nat.reduceSub, reduceIte, Nat.reduceEqDiff, Nat.reduceLT, reduceCtorEq, Nat.reduceMul, Nat.reduceBEq, Int.reduceEq, if_true, if_false, eq_self, ne_eq, env_bT, T_9, Token.pv_eq, Part.pv_eq, eqT_9, *, decide_true, decide_false, Decidable.not_not, not_false_eq_true, not_true_eq_false])
      all_goals (first | (simp only [BOOLS]; done) | (simp [*]; done) | ((try simp only [CLOS, beq_iff_eq, bne_iff_ne, ne_eq] at *) <;> omega) | (simp_all; done) | (simp_all <;> omega))
    refine AW.cond (b := ((decide (two4 = [38, 38]) || decide (two4 = [124, 124])) || decide (two4 = [36, 35]))) rfl (fun hb5 => ?_) (fun hb5 => ?_)
    · replace h := bif_t hb5 h
      refine AW.seq ?_
      refine AW.reg hS [(4, ai (IntKind.wrap .i64 (at2 + 2)))] [] ?_ ?_
      · simp -implicitDefEqProofs only [RUNS, qindex, Nat.reduceAdd, Nat.reduceLeDiff, Nat.reduceSub, reduceIte, Nat.reduceEqDiff, Nat.reduceLT, reduceCtorEq, Nat.reduceMul, Nat.reduceBEq, Int.reduceEq, if_true, if_false, eq_self, ne_eq, env_bT, T_3, Token.pv_eq, Part.pv_eq, eqT_3]
      refine AW.ret ?_
      cases h
      show finish _ _ _ _ _ = _
      first | rfl | (simp [finish, resOf, renArgs, toPV, selObjs, sl])
    · replace h := bif_f hb5 h
      refine AW.skip ?_
      refine AW.seq ?_
      refine AW.seq ?_
      replace h := Option.bind_eq_some_iff.1 h; obtain ⟨c6, q7, h⟩ := h
      have f8 := sidx_f q7
      replace h := Option.bind_eq_some_iff.1 h; obtain ⟨r9, q10, h⟩ := h
      have f11 := c_F55 c6 [59, 38, 124, 40, 41, 123, 125, 60, 62, 61, 94, 96, 36, 33, 64] r9 q10
      try dsimp only at f11
      try simp only [List.map_cons, List.map_nil, Token.pv_eq, Part.pv_eq] at f11
      refine AW.reg hS [(0, as_ s1), (1, ai at2), (5, as_ two4), (33, ab (!r9))] [] ?_ ?_
      · simp -implicitDefEqProofs only [RUNS, qindex, Nat.reduceAdd, Nat.reduceLeDiff, Nat.reduceSub, reduceIte, Nat.reduceEqDiff, Nat.reduceLT, reduceCtorEq, Nat.reduceMul, Nat.reduceBEq, Int.reduceEq, if_true, if_false, eq_self, ne_eq, env_bT, T_5, T_9, Token.pv_eq, Part.pv_eq, f8.1, f8.2.1, f8.2.2, pf_55, f11]
      refine AW.cond (b := !r9) rfl (fun hb12 => ?_) (fun hb12 => ?_)
      · replace h := bif_t hb12 h
        refine AW.seq ?_
        refine AW.reg hS [(4, ai at2)] [] ?_ ?_
        · simp -implicitDefEqProofs only [RUNS, qindex, Nat.reduceAdd, Nat.reduceLeDiff, Nat.reduceSub, reduceIte, Nat.reduceEqDiff, Nat.reduceLT, reduceCtorEq, Nat.reduceMul, Nat.reduceBEq, Int.reduceEq, if_true, if_false, eq_self, ne_eq, env_bT, Token.pv_eq, Part.pv_eq]
        refine AW.ret ?_
        cases h
        show finish _ _ _ _ _ = _
        first | rfl | (simp [finish, resOf, renArgs, toPV, selObjs, sl])
      · replace h := bif_f hb12 h
        refine AW.skip ?_
        refine AW.seq ?_
        refine AW.reg hS [(0, as_ s1), (1, ai at2), (5, as_ two4), (6, ai (IntKind.wrap .i64 (at2 + 1)))] [] ?_ ?_
        · simp -implicitDefEqProofs only [RUNS, qindex, Nat.reduceAdd, Nat.reduceLeDiff, Nat.reduceSub, reduceIte, Nat.reduceEqDiff, Nat.reduceLT, reduceCtorEq, Nat.reduceMul, Nat.reduceBEq, Int.reduceEq, if_true, if_false, eq_self, ne_eq, env_bT, T_3, Token.pv_eq, Part.pv_eq, eqT_3]
        refine AW.seqM ⟨sl [(0, as_ s1), (1, ai at2), (6, ai (bif decide (two4 = [62, 62]) then IntKind.wrap .i64 (at2 + 2) else IntKind.wrap .i64 (at2 + 1)))], 65, []⟩ ?_ ?_
        · refine AW.seq ?_
          refine AW.reg hS [(0, as_ s1), (1, ai at2), (6, ai (IntKind.wrap .i64 (at2 + 1))), (38, ab (decide (two4 = [62, 62])))] [] ?_ ?_
          · simp -implicitDefEqProofs only [RUNS, qindex, Nat.reduceAdd, Nat.reduceLeDiff, Nat.reduceSub, reduceIte, Nat.reduceEqDiff, Nat.reduceLT, reduceCtorEq, Nat.reduceMul, Nat.reduceBEq, Int.reduceEq, if_true, if_false, eq_self, ne_eq, env_bT, T_9, Token.pv_eq, Part.pv_eq, eqT_9]
          refine AW.cond (b := decide (two4 = [62, 62])) rfl (fun hb13 => ?_) (fun hb13 => ?_)
          · refine AW.reg hS [(0, as_ s1), (1, ai at2), (6, ai (IntKind.wrap .i64 (at2 + 2)))] [] ?_ ?_
            · simp -implicitDefEqProofs only [RUNS, qindex, Nat.reduceAdd, Nat.reduceLeDiff, Nat.reduceSub, reduceIte, Nat.reduceEqDiff, Nat.reduceLT, reduceCtorEq, Nat.reduceMul, Nat.reduceBEq, Int.reduceEq, if_true, if_false, eq_self, ne_eq, env_bT, T_3, Token.pv_eq, Part.pv_eq, eqT_3]
            exact Weak.of_eq (Weak.slots (L := [(0, as_ s1), (1, ai at2), (6, ai (IntKind.wrap .i64 (at2 + 2)))]) ⟨rfl, rfl, rfl, trivial⟩) (by simp only [hb13, cond_true, cond_false, Bool.true_or, Bool.false_or, Bool.true_and, Bool.false_and, Bool.or_true, Bool.or_false, Bool.and_true, Bool.and_false, Bool.not_true, Bool.not_false])
          · refine AW.skip ?_
            exact Weak.of_eq (Weak.slots (L := [(0, as_ s1), (1, ai at2), (6, ai (IntKind.wrap .i64 (at2 + 1)))]) ⟨rfl, rfl, rfl, trivial⟩) (by simp only [hb13, cond_true, cond_false, Bool.true_or, Bool.false_or, Bool.true_and, Bool.false_and, Bool.or_true, Bool.or_false, Bool.and_true, Bool.and_false, Bool.not_true, Bool.not_false])
        refine AW.seq ?_
        refine AW.seq ?_
        replace h := Option.bind_eq_some_iff.1 h; obtain ⟨r14, q15, h⟩ := h
        have f16 := c_F55 c6 [60, 62, 124] r14 q15
        try dsimp only at f16
        try simp only [List.map_cons, List.map_nil, Token.pv_eq, Part.pv_eq] at f16
        replace h := Option.bind_eq_some_iff.1 h; obtain ⟨c17, q18, h⟩ := h
        have f19 := sidx_g (guardO_t q18)
        refine AW.reg hS [(0, as_ s1), (1, ai at2), (6, ai (bif decide (two4 = [62, 62]) then IntKind.wrap .i64 (at2 + 2) else IntKind.wrap .i64 (at2 + 1))), (56, ab ((r14 && decide ((bif decide (two4 = [62, 62]) then IntKind.wrap .i64 (at2 + 2) else IntKind.wrap .i64 (at2 + 1)) < (s1.length : Int))) && decide (c17 = 91)))] [] ?_ ?_
        · clear h
          (simp -implicitDefEqProofs only [RUNS, qindex, Nat.reduceAdd, Nat.reduceLeDiff, Nat.reduceSub, reduceIte, Nat.reduceEqDiff, Nat.reduceLT, reduceCtorEq, Nat.reduceMul, Nat.reduceBEq, Int.reduceEq, if_true, if_false, eq_self, ne_eq, env_bT, T_3, T_5, T_9, Token.pv_eq, Part.pv_eq, f8.1, f8.2.1, f8.2.2, pf_55, f16, eqT_3, f19.1, f19.2.1, f19.2.2, eqT_5]); repeat' (split <;> rename_i hb <;> (try simp only [HBS, ge_iff_le, gt_iff_lt] at hb) <;> simp -implicitDefEqProofs only [RUNS, qindex, Nat.reduceAdd, Nat.reduceLeDiff, Nat.reduceSub, reduceIte, Nat.reduceEqDiff, Nat.reduceLT, reduceCtorEq, Nat.reduceMul, Nat.reduceBEq, Int.reduceEq, if_true, if_false, eq_self, ne_eq, env_bT, T_3, T_5, T_9, Token.pv_eq, Part.pv_eq, f8.1, f8.2.1, f8.2.2, pf_55, f16, eqT_3, f19.1, f19.2.1, f19.2.2, eqT_5, *, decide_true, decide_false, Decidable.not_not, not_false_eq_true, not_true_eq_false])
          all_goals (first | (simp only [BOOLS]; done) | (simp [*]; done) | ((try simp only [CLOS, beq_iff_eq, bne_iff_ne, ne_eq] at *) <;> omega) | (simp_all; done) | (simp_all <;> omega))
        refine AW.cond (b := ((r14 && decide ((bif decide (two4 = [62, 62]) then IntKind.wrap .i64 (at2 + 2) else IntKind.wrap .i64 (at2 + 1)) < (s1.length : Int))) && decide (c17 = 91))) rfl (fun hb20 => ?_) (fun hb20 => ?_)
        · replace h := bif_t hb20 h
          refine AW.seq ?_
          replace h := Option.bind_eq_some_iff.1 h; obtain ⟨r21, q22, h⟩ := h
          have f23 := c_F56 s1 (bif decide (two4 = [62, 62]) then IntKind.wrap .i64 (at2 + 2) else IntKind.wrap .i64 (at2 + 1)) (!decide (c6 = 124)) r21 q22
          try dsimp only at f23
          refine AW.reg hS [(4, ai r21)] [] ?_ ?_
          · simp -implicitDefEqProofs only [RUNS, qindex, Nat.reduceAdd, Nat.reduceLeDiff, Nat.reduceSub, reduceIte, Nat.reduceEqDiff, Nat.reduceLT, reduceCtorEq, Nat.reduceMul, Nat.reduceBEq, Int.reduceEq, if_true, if_false, eq_self, ne_eq, env_bT, T_3, T_4, T_5, T_9, Token.pv_eq, Part.pv_eq, f8.1, f8.2.1, f8.2.2, eqT_5, pf_56, f23]
          refine AW.ret ?_
          cases h
          show finish _ _ _ _ _ = _
          first | rfl | (simp [finish, resOf, renArgs, toPV, selObjs, sl])
        · replace h := bif_f hb20 h
          refine AW.skip ?_
          refine AW.seq ?_
          refine AW.reg hS [(4, ai (bif decide (two4 = [62, 62]) then IntKind.wrap .i64 (at2 + 2) else IntKind.wrap .i64 (at2 + 1)))] [] ?_ ?_
          · simp -implicitDefEqProofs only [RUNS, qindex, Nat.reduceAdd, Nat.reduceLeDiff, Nat.reduceSub, reduceIte, Nat.reduceEqDiff, Nat.reduceLT, reduceCtorEq, Nat.reduceMul, Nat.reduceBEq, Int.reduceEq, if_true, if_false, eq_self, ne_eq, env_bT, Token.pv_eq, Part.pv_eq]
          refine AW.ret ?_
          cases h
          show finish _ _ _ _ _ = _
          first | rfl | (simp [finish, resOf, renArgs, toPV, selObjs, sl])
  refine AW.seq ?_
  refine AW.reg hS [(0, as_ s1), (1, ai at2), (5, as_ []), (11, ab (decide (IntKind.wrap .i64 (at2 + 2) ≤ (s1.length : Int))))] [] ?_ ?_
  · simp -implicitDefEqProofs only [RUNS, qindex, Nat.reduceAdd, Nat.reduceLeDiff, Nat.reduceSub, reduceIte, Nat.reduceEqDiff, Nat.reduceLT, reduceCtorEq, Nat.reduceMul, Nat.reduceBEq, Int.reduceEq, if_true, if_false, eq_self, ne_eq, env_bT, T_3, T_9, Token.pv_eq, Part.pv_eq, eqT_3]
  refine AW.cond (b := decide (IntKind.wrap .i64 (at2 + 2) ≤ (s1.length : Int))) rfl (fun hb24 => ?_) (fun hb24 => ?_)
  · replace h := bif_t hb24 h
    replace h := Option.bind_eq_some_iff.1 h; obtain ⟨t25, q26, h⟩ := h
    have f27 := sslice_f q26
    have f27e := f27.2.2.2.2
    try simp only [Int.toNat_natCast, Int.toNat_zero, List.drop_zero] at f27e
    have f27l := f27.2.2.1
    try simp only [Int.toNat_natCast, Int.toNat_zero] at f27l
    refine AW.reg hS [(0, as_ s1), (1, ai at2), (5, as_ t25)] [] ?_ ?_
    · simp -implicitDefEqProofs only [RUNS, qindex, Nat.reduceAdd, Nat.reduceLeDiff, Nat.reduceSub, reduceIte, Nat.reduceEqDiff, Nat.reduceLT, reduceCtorEq, Nat.reduceMul, Nat.reduceBEq, Int.reduceEq, if_true, if_false, eq_self, ne_eq, env_bT, T_3, T_9, Token.pv_eq, Part.pv_eq, eqT_3, f27.1, f27.2.1, f27l, f27.2.2.2.1, f27e, Int.toNat_natCast, Int.toNat_zero]
    exact ⟨t25, h, (Weak.norm (m := 0) (Nat.le_of_ble_eq_true rfl) ⟨rfl, rfl, rfl, trivial⟩ rfl rfl rfl)⟩
  · replace h := bif_f hb24 h
    refine AW.skip ?_
    exact ⟨[], h, (Weak.norm (m := 0) (Nat.le_of_ble_eq_true rfl) ⟨rfl, rfl, rfl, trivial⟩ rfl rfl rfl)⟩

end Go.Abs.U47
