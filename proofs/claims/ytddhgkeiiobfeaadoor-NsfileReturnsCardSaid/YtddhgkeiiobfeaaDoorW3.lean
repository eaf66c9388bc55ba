/- The layer 45 laws: the functions walked. -/
import Derived.Test.YtddhgkeiiobfeaaDoorD1
set_option linter.unusedVariables false
set_option linter.unusedSimpArgs false
namespace Go.Abs.U45
open Go.RowKit Go.Proofs

set_option maxHeartbeats 4000000 in
theorem g_F14 {O : Orc} (hS : Sound env O) (hpf : O.pf = pfn) (c_F24 : C_F24 O) (n1 : Ns) (cwd2 : Str) (r3 : Str) (h : F14 n1 cwd2 = some r3) : Good env 14 [.pv (.agg [.int .i64 n1.id_, .int .i64 n1.root_.dev_, .int .i64 n1.root_.id_, .int .i64 n1.root_.fid_, .str n1.root_.path_, .str n1.root_.name_, .slice (List.map Mount.pv n1.mounts_)]), .pv (.str cwd2)] [] [.pv (.str r3)] [] := by
  have pf_24 : O.pf 24 = true := by rw [hpf]; rfl
  refine Good.start (fn := Tryd.f14) (N := 87) rfl rfl rfl (by simp) [] _ rfl rfl ?_
  rw [F14] at h
  refine AW.seq ?_
  refine AW.reg hS [(1, .pv (.str cwd2)), (2, .ref 0 0)] [.var [.pv (.int .i64 n1.id_), .pv (.int .i64 n1.root_.dev_), .pv (.int .i64 n1.root_.id_), .pv (.int .i64 n1.root_.fid_), .pv (.str n1.root_.path_), .pv (.str n1.root_.name_), .pv (.slice (List.map Mount.pv n1.mounts_))]] ?_ ?_
  · simp -implicitDefEqProofs only [RUNS, qindex, Nat.reduceAdd, Nat.reduceLeDiff, Nat.reduceSub, reduceIte, Nat.reduceEqDiff, Nat.reduceLT, reduceCtorEq, Nat.reduceMul, if_true, if_false, eq_self, ne_eq, env_bT, T_33, NsOp.pv_eq, Word.pv_eq, Chan.pv_eq, Target.pv_eq, P38_eq, Mount.pv_eq, P31_eq, Ns.pv_eq]
  refine AW.seq ?_
  refine AW.reg hS [(1, .pv (.str cwd2)), (2, .ref 0 0), (5, .pv (.str []))] [.var [.pv (.int .i64 n1.id_), .pv (.int .i64 n1.root_.dev_), .pv (.int .i64 n1.root_.id_), .pv (.int .i64 n1.root_.fid_), .pv (.str n1.root_.path_), .pv (.str n1.root_.name_), .pv (.slice (List.map Mount.pv n1.mounts_))]] ?_ ?_
  · simp -implicitDefEqProofs only [RUNS, qindex, Nat.reduceAdd, Nat.reduceLeDiff, Nat.reduceSub, reduceIte, Nat.reduceEqDiff, Nat.reduceLT, reduceCtorEq, Nat.reduceMul, if_true, if_false, eq_self, ne_eq, env_bT, NsOp.pv_eq, Word.pv_eq, Chan.pv_eq, Target.pv_eq, P38_eq, Mount.pv_eq, P31_eq, Ns.pv_eq]
  refine AW.seq ?_
  refine AW.seq ?_
  refine AW.reg hS [(1, .pv (.str cwd2)), (2, .ref 0 0), (5, .pv (.str [])), (6, .pv (.int .i64 0))] [.var [.pv (.int .i64 n1.id_), .pv (.int .i64 n1.root_.dev_), .pv (.int .i64 n1.root_.id_), .pv (.int .i64 n1.root_.fid_), .pv (.str n1.root_.path_), .pv (.str n1.root_.name_), .pv (.slice (List.map Mount.pv n1.mounts_))]] ?_ ?_
  · simp -implicitDefEqProofs only [RUNS, qindex, Nat.reduceAdd, Nat.reduceLeDiff, Nat.reduceSub, reduceIte, Nat.reduceEqDiff, Nat.reduceLT, reduceCtorEq, Nat.reduceMul, if_true, if_false, eq_self, ne_eq, env_bT, NsOp.pv_eq, Word.pv_eq, Chan.pv_eq, Target.pv_eq, P38_eq, Mount.pv_eq, P31_eq, Ns.pv_eq]
  refine AW.block ?_
  refine AW.weak (Weak.slots (L := [(1, .pv (.str cwd2)), (2, .ref 0 0), (5, .pv (.str [])), (6, .pv (.int .i64 0))]) ⟨rfl, rfl, rfl, rfl, trivial⟩) ?_
  refine AW.loopI (α := Nat × Str × Int) (fun (_, s4, i5) => ⟨sl [(1, .pv (.str cwd2)), (2, .ref 0 0), (5, .pv (.str s4)), (6, .pv (.int .i64 i5))], 87, [.var [.pv (.int .i64 n1.id_), .pv (.int .i64 n1.root_.dev_), .pv (.int .i64 n1.root_.id_), .pv (.int .i64 n1.root_.fid_), .pv (.str n1.root_.path_), .pv (.str n1.root_.name_), .pv (.slice (List.map Mount.pv n1.mounts_))]]⟩) (fun x => iter (F14_b2 n1 cwd2) x.1 x.2 = some r3) (fun x => x.1) (BIG, ([], 0)) h ?_
  clear h
  intro ⟨n44, s4, i5⟩ h
  replace h := iter_some h; obtain ⟨m8, rfl, h⟩ := h
  rw [F14_b2] at h
  try dsimp only at h
  show AW _ _ _ _ ⟨sl [(1, .pv (.str cwd2)), (2, .ref 0 0), (5, .pv (.str s4)), (6, .pv (.int .i64 i5))], 87, [.var [.pv (.int .i64 n1.id_), .pv (.int .i64 n1.root_.dev_), .pv (.int .i64 n1.root_.id_), .pv (.int .i64 n1.root_.fid_), .pv (.str n1.root_.path_), .pv (.str n1.root_.name_), .pv (.slice (List.map Mount.pv n1.mounts_))]]⟩
  refine AW.seq ?_
  refine AW.seq ?_
  refine AW.reg hS [(1, .pv (.str cwd2)), (2, .ref 0 0), (5, .pv (.str s4)), (6, .pv (.int .i64 i5)), (15, .pv (.bool (decide (i5 < (n1.mounts_.length : Int)))))] [.var [.pv (.int .i64 n1.id_), .pv (.int .i64 n1.root_.dev_), .pv (.int .i64 n1.root_.id_), .pv (.int .i64 n1.root_.fid_), .pv (.str n1.root_.path_), .pv (.str n1.root_.name_), .pv (.slice (List.map Mount.pv n1.mounts_))]] ?_ ?_
  · simp -implicitDefEqProofs only [RUNS, qindex, Nat.reduceAdd, Nat.reduceLeDiff, Nat.reduceSub, reduceIte, Nat.reduceEqDiff, Nat.reduceLT, reduceCtorEq, Nat.reduceMul, if_true, if_false, eq_self, ne_eq, env_bT, T_3, T_31, T_33, T_40, NsOp.pv_eq, Word.pv_eq, Chan.pv_eq, Target.pv_eq, P38_eq, Mount.pv_eq, P31_eq, Ns.pv_eq, eqT_3]
  refine AW.cond (b := decide (i5 < (n1.mounts_.length : Int))) rfl (fun hb9 => ?_) (fun hb9 => ?_)
  · replace h := bif_t hb9 h
    refine AW.skip ?_
    refine AW.seq ?_
    refine AW.block ?_
    refine AW.seq ?_
    replace h := Option.bind_eq_some_iff.1 h; obtain ⟨u10, q11, h⟩ := h
    have f12 := lidx_f q11
    refine AW.reg hS [(1, .pv (.str cwd2)), (2, .ref 0 0), (5, .pv (.str s4)), (6, .pv (.int .i64 i5)), (7, .ref 1 0)] [.var [.pv (.int .i64 n1.id_), .pv (.int .i64 n1.root_.dev_), .pv (.int .i64 n1.root_.id_), .pv (.int .i64 n1.root_.fid_), .pv (.str n1.root_.path_), .pv (.str n1.root_.name_), .pv (.slice (List.map Mount.pv n1.mounts_))], .var [.pv (.int .i64 u10.from_.dev_), .pv (.int .i64 u10.from_.id_), .pv (.int .i64 u10.from_.fid_), .pv (.str u10.from_.path_), .pv (.str u10.from_.name_), .pv (.slice (List.map Target.pv u10.to_))]] ?_ ?_
    · simp -implicitDefEqProofs only [RUNS, qindex, Nat.reduceAdd, Nat.reduceLeDiff, Nat.reduceSub, reduceIte, Nat.reduceEqDiff, Nat.reduceLT, reduceCtorEq, Nat.reduceMul, if_true, if_false, eq_self, ne_eq, env_bT, T_31, T_33, T_40, NsOp.pv_eq, Word.pv_eq, Chan.pv_eq, Target.pv_eq, P38_eq, Mount.pv_eq, P31_eq, Ns.pv_eq, f12.1, f12.2.1]
    refine AW.seq ?_
    refine AW.reg hS [(1, .pv (.str cwd2)), (2, .ref 0 0), (5, .pv (.str s4)), (6, .pv (.int .i64 i5)), (7, .ref 1 0), (8, .pv (.int .i64 0))] [.var [.pv (.int .i64 n1.id_), .pv (.int .i64 n1.root_.dev_), .pv (.int .i64 n1.root_.id_), .pv (.int .i64 n1.root_.fid_), .pv (.str n1.root_.path_), .pv (.str n1.root_.name_), .pv (.slice (List.map Mount.pv n1.mounts_))], .var [.pv (.int .i64 u10.from_.dev_), .pv (.int .i64 u10.from_.id_), .pv (.int .i64 u10.from_.fid_), .pv (.str u10.from_.path_), .pv (.str u10.from_.name_), .pv (.slice (List.map Target.pv u10.to_))]] ?_ ?_
    · simp -implicitDefEqProofs only [RUNS, qindex, Nat.reduceAdd, Nat.reduceLeDiff, Nat.reduceSub, reduceIte, Nat.reduceEqDiff, Nat.reduceLT, reduceCtorEq, Nat.reduceMul, if_true, if_false, eq_self, ne_eq, env_bT, NsOp.pv_eq, Word.pv_eq, Chan.pv_eq, Target.pv_eq, P38_eq, Mount.pv_eq, P31_eq, Ns.pv_eq]
    refine AW.block ?_
    refine AW.weak (Weak.slots (L := [(1, .pv (.str cwd2)), (2, .ref 0 0), (5, .pv (.str s4)), (6, .pv (.int .i64 i5)), (7, .ref 1 0), (8, .pv (.int .i64 0))]) ⟨rfl, rfl, rfl, rfl, rfl, rfl, trivial⟩) ?_
    refine AW.loopI (α := Nat × Str × Int) (fun (_, s13, k14) => ⟨sl [(1, .pv (.str cwd2)), (2, .ref 0 0), (5, .pv (.str s13)), (6, .pv (.int .i64 i5)), (7, .ref 1 0), (8, .pv (.int .i64 k14))], 87, [.var [.pv (.int .i64 n1.id_), .pv (.int .i64 n1.root_.dev_), .pv (.int .i64 n1.root_.id_), .pv (.int .i64 n1.root_.fid_), .pv (.str n1.root_.path_), .pv (.str n1.root_.name_), .pv (.slice (List.map Mount.pv n1.mounts_))], .var [.pv (.int .i64 u10.from_.dev_), .pv (.int .i64 u10.from_.id_), .pv (.int .i64 u10.from_.fid_), .pv (.str u10.from_.path_), .pv (.str u10.from_.name_), .pv (.slice (List.map Target.pv u10.to_))]]⟩) (fun x => iter (F14_b3 u10 (iter (F14_b2 n1 cwd2) m8) i5) x.1 x.2 = some r3) (fun x => x.1) (BIG, (s4, 0)) h ?_
    clear h
    intro ⟨n34, s13, k14⟩ h
    replace h := iter_some h; obtain ⟨m17, rfl, h⟩ := h
    rw [F14_b3] at h
    try dsimp only at h
    show AW _ _ _ _ ⟨sl [(1, .pv (.str cwd2)), (2, .ref 0 0), (5, .pv (.str s13)), (6, .pv (.int .i64 i5)), (7, .ref 1 0), (8, .pv (.int .i64 k14))], 87, [.var [.pv (.int .i64 n1.id_), .pv (.int .i64 n1.root_.dev_), .pv (.int .i64 n1.root_.id_), .pv (.int .i64 n1.root_.fid_), .pv (.str n1.root_.path_), .pv (.str n1.root_.name_), .pv (.slice (List.map Mount.pv n1.mounts_))], .var [.pv (.int .i64 u10.from_.dev_), .pv (.int .i64 u10.from_.id_), .pv (.int .i64 u10.from_.fid_), .pv (.str u10.from_.path_), .pv (.str u10.from_.name_), .pv (.slice (List.map Target.pv u10.to_))]]⟩
    refine AW.seq ?_
    refine AW.seq ?_
    refine AW.reg hS [(1, .pv (.str cwd2)), (2, .ref 0 0), (5, .pv (.str s13)), (6, .pv (.int .i64 i5)), (7, .ref 1 0), (8, .pv (.int .i64 k14)), (27, .pv (.bool (decide (k14 < (u10.to_.length : Int)))))] [.var [.pv (.int .i64 n1.id_), .pv (.int .i64 n1.root_.dev_), .pv (.int .i64 n1.root_.id_), .pv (.int .i64 n1.root_.fid_), .pv (.str n1.root_.path_), .pv (.str n1.root_.name_), .pv (.slice (List.map Mount.pv n1.mounts_))], .var [.pv (.int .i64 u10.from_.dev_), .pv (.int .i64 u10.from_.id_), .pv (.int .i64 u10.from_.fid_), .pv (.str u10.from_.path_), .pv (.str u10.from_.name_), .pv (.slice (List.map Target.pv u10.to_))]] ?_ ?_
    · simp -implicitDefEqProofs only [RUNS, qindex, Nat.reduceAdd, Nat.reduceLeDiff, Nat.reduceSub, reduceIte, Nat.reduceEqDiff, Nat.reduceLT, reduceCtorEq, Nat.reduceMul, if_true, if_false, eq_self, ne_eq, env_bT, T_3, T_38, T_40, T_42, NsOp.pv_eq, Word.pv_eq, Chan.pv_eq, Target.pv_eq, P38_eq, Mount.pv_eq, P31_eq, Ns.pv_eq, eqT_3]
    refine AW.cond (b := decide (k14 < (u10.to_.length : Int))) rfl (fun hb18 => ?_) (fun hb18 => ?_)
    · replace h := bif_t hb18 h
      refine AW.skip ?_
      refine AW.seq ?_
      refine AW.block ?_
      refine AW.seq ?_
      replace h := Option.bind_eq_some_iff.1 h; obtain ⟨u19, q20, h⟩ := h
      have f21 := lidx_f q20
      refine AW.reg hS [(1, .pv (.str cwd2)), (2, .ref 0 0), (5, .pv (.str s13)), (6, .pv (.int .i64 i5)), (7, .ref 1 0), (8, .pv (.int .i64 k14)), (9, .ref 2 0)] [.var [.pv (.int .i64 n1.id_), .pv (.int .i64 n1.root_.dev_), .pv (.int .i64 n1.root_.id_), .pv (.int .i64 n1.root_.fid_), .pv (.str n1.root_.path_), .pv (.str n1.root_.name_), .pv (.slice (List.map Mount.pv n1.mounts_))], .var [.pv (.int .i64 u10.from_.dev_), .pv (.int .i64 u10.from_.id_), .pv (.int .i64 u10.from_.fid_), .pv (.str u10.from_.path_), .pv (.str u10.from_.name_), .pv (.slice (List.map Target.pv u10.to_))], .var [.pv (.int .i64 u19.chan_.dev_), .pv (.int .i64 u19.chan_.id_), .pv (.int .i64 u19.chan_.fid_), .pv (.str u19.chan_.path_), .pv (.str u19.chan_.name_), .pv (.bool u19.create_)]] ?_ ?_
      · simp -implicitDefEqProofs only [RUNS, qindex, Nat.reduceAdd, Nat.reduceLeDiff, Nat.reduceSub, reduceIte, Nat.reduceEqDiff, Nat.reduceLT, reduceCtorEq, Nat.reduceMul, if_true, if_false, eq_self, ne_eq, env_bT, T_38, T_40, T_42, NsOp.pv_eq, Word.pv_eq, Chan.pv_eq, Target.pv_eq, P38_eq, Mount.pv_eq, P31_eq, Ns.pv_eq, f21.1, f21.2.1]
      refine AW.seq ?_
      refine AW.seq ?_
      refine AW.reg hS [(1, .pv (.str cwd2)), (2, .ref 0 0), (5, .pv (.str s13)), (6, .pv (.int .i64 i5)), (7, .ref 1 0), (8, .pv (.int .i64 k14)), (9, .ref 2 0), (59, .pv (.bool (((decide (k14 = 0) && !u19.create_) && decide (u19.chan_.dev_ = u10.from_.dev_)) && decide (u19.chan_.id_ = u10.from_.id_))))] [.var [.pv (.int .i64 n1.id_), .pv (.int .i64 n1.root_.dev_), .pv (.int .i64 n1.root_.id_), .pv (.int .i64 n1.root_.fid_), .pv (.str n1.root_.path_), .pv (.str n1.root_.name_), .pv (.slice (List.map Mount.pv n1.mounts_))], .var [.pv (.int .i64 u10.from_.dev_), .pv (.int .i64 u10.from_.id_), .pv (.int .i64 u10.from_.fid_), .pv (.str u10.from_.path_), .pv (.str u10.from_.name_), .pv (.slice (List.map Target.pv u10.to_))], .var [.pv (.int .i64 u19.chan_.dev_), .pv (.int .i64 u19.chan_.id_), .pv (.int .i64 u19.chan_.fid_), .pv (.str u19.chan_.path_), .pv (.str u19.chan_.name_), .pv (.bool u19.create_)]] ?_ ?_
      · clear h
        (simp -implicitDefEqProofs only [RUNS, qindex, Nat.reduceAdd, Nat.reduceLeDiff, Nat.reduceSub, reduceIte, Nat.reduceEqDiff, Nat.reduceLT, reduceCtorEq, Nat.reduceMul, if_true, if_false, eq_self, ne_eq, env_bT, T_3, T_4, T_30, T_40, T_42, NsOp.pv_eq, Word.pv_eq, Chan.pv_eq, Target.pv_eq, P38_eq, Mount.pv_eq, P31_eq, Ns.pv_eq, eqT_3]); repeat' (split <;> rename_i hb <;> (try simp only [HBS, ge_iff_le, gt_iff_lt] at hb) <;> simp -implicitDefEqProofs only [RUNS, qindex, Nat.reduceAdd, Nat.reduceLeDiff, Nat.reduceSub, reduceIte, Nat.reduceEqDiff, Nat.reduceLT, reduceCtorEq, Nat.reduceMul, if_true, if_false, eq_self, ne_eq, env_bT, T_3, T_4, T_30, T_40, T_42, NsOp.pv_eq, Word.pv_eq, Chan.pv_eq, Target.pv_eq, P38_eq, Mount.pv_eq, P31_eq, Ns.pv_eq, eqT_3, *, decide_true, decide_false, Decidable.not_not, not_false_eq_true, not_true_eq_false])
        all_goals (first | (simp only [BOOLS]; done) | (simp [*]; done) | ((try simp only [CLOS, beq_iff_eq, bne_iff_ne, ne_eq] at *) <;> omega) | (simp_all; done) | (simp_all <;> omega))
      refine AW.cond (b := (((decide (k14 = 0) && !u19.create_) && decide (u19.chan_.dev_ = u10.from_.dev_)) && decide (u19.chan_.id_ = u10.from_.id_))) rfl (fun hb22 => ?_) (fun hb22 => ?_)
      · replace h := bif_t hb22 h
        refine AW.exit ?_
        refine AW.reg hS [(1, .pv (.str cwd2)), (2, .ref 0 0), (5, .pv (.str s13)), (6, .pv (.int .i64 i5)), (7, .ref 1 0), (8, .pv (.int .i64 (IntKind.wrap .i64 (k14 + 1))))] [.var [.pv (.int .i64 n1.id_), .pv (.int .i64 n1.root_.dev_), .pv (.int .i64 n1.root_.id_), .pv (.int .i64 n1.root_.fid_), .pv (.str n1.root_.path_), .pv (.str n1.root_.name_), .pv (.slice (List.map Mount.pv n1.mounts_))], .var [.pv (.int .i64 u10.from_.dev_), .pv (.int .i64 u10.from_.id_), .pv (.int .i64 u10.from_.fid_), .pv (.str u10.from_.path_), .pv (.str u10.from_.name_), .pv (.slice (List.map Target.pv u10.to_))], .var [.pv (.int .i64 u19.chan_.dev_), .pv (.int .i64 u19.chan_.id_), .pv (.int .i64 u19.chan_.fid_), .pv (.str u19.chan_.path_), .pv (.str u19.chan_.name_), .pv (.bool u19.create_)]] ?_ ?_
        · simp -implicitDefEqProofs only [RUNS, qindex, Nat.reduceAdd, Nat.reduceLeDiff, Nat.reduceSub, reduceIte, Nat.reduceEqDiff, Nat.reduceLT, reduceCtorEq, Nat.reduceMul, if_true, if_false, eq_self, ne_eq, env_bT, T_3, NsOp.pv_eq, Word.pv_eq, Chan.pv_eq, Target.pv_eq, P38_eq, Mount.pv_eq, P31_eq, Ns.pv_eq, eqT_3]
        exact ⟨(m17, (s13, IntKind.wrap .i64 (k14 + 1))), h, (Weak.norm (m := 2) (Nat.le_of_ble_eq_true rfl) ⟨rfl, rfl, rfl, rfl, rfl, rfl, trivial⟩ rfl rfl rfl), Nat.lt_succ_self _⟩
      · replace h := bif_f hb22 h
        refine AW.skip ?_
        refine AW.seq ?_
        refine AW.reg hS [(1, .pv (.str cwd2)), (2, .ref 0 0), (5, .pv (.str s13)), (6, .pv (.int .i64 i5)), (7, .ref 1 0), (8, .pv (.int .i64 k14)), (9, .ref 2 0), (10, .ref 3 0)] [.var [.pv (.int .i64 n1.id_), .pv (.int .i64 n1.root_.dev_), .pv (.int .i64 n1.root_.id_), .pv (.int .i64 n1.root_.fid_), .pv (.str n1.root_.path_), .pv (.str n1.root_.name_), .pv (.slice (List.map Mount.pv n1.mounts_))], .var [.pv (.int .i64 u10.from_.dev_), .pv (.int .i64 u10.from_.id_), .pv (.int .i64 u10.from_.fid_), .pv (.str u10.from_.path_), .pv (.str u10.from_.name_), .pv (.slice (List.map Target.pv u10.to_))], .var [.pv (.int .i64 u19.chan_.dev_), .pv (.int .i64 u19.chan_.id_), .pv (.int .i64 u19.chan_.fid_), .pv (.str u19.chan_.path_), .pv (.str u19.chan_.name_), .pv (.bool u19.create_)], .var [.pv (.int .i64 1), .pv (.int .i64 0), .pv (.str u19.chan_.name_), .pv (.str u10.from_.name_)]] ?_ ?_
        · simp -implicitDefEqProofs only [RUNS, qindex, Nat.reduceAdd, Nat.reduceLeDiff, Nat.reduceSub, reduceIte, Nat.reduceEqDiff, Nat.reduceLT, reduceCtorEq, Nat.reduceMul, if_true, if_false, eq_self, ne_eq, env_bT, T_9, T_23, T_30, T_40, T_42, NsOp.pv_eq, Word.pv_eq, Chan.pv_eq, Target.pv_eq, P38_eq, Mount.pv_eq, P31_eq, Ns.pv_eq]
        refine AW.seqM ⟨sl [(1, .pv (.str cwd2)), (2, .ref 0 0), (5, .pv (.str s13)), (6, .pv (.int .i64 i5)), (7, .ref 1 0), (8, .pv (.int .i64 k14)), (9, .ref 2 0), (10, .ref 3 0)], 87, [.var [.pv (.int .i64 n1.id_), .pv (.int .i64 n1.root_.dev_), .pv (.int .i64 n1.root_.id_), .pv (.int .i64 n1.root_.fid_), .pv (.str n1.root_.path_), .pv (.str n1.root_.name_), .pv (.slice (List.map Mount.pv n1.mounts_))], .var [.pv (.int .i64 u10.from_.dev_), .pv (.int .i64 u10.from_.id_), .pv (.int .i64 u10.from_.fid_), .pv (.str u10.from_.path_), .pv (.str u10.from_.name_), .pv (.slice (List.map Target.pv u10.to_))], .var [.pv (.int .i64 u19.chan_.dev_), .pv (.int .i64 u19.chan_.id_), .pv (.int .i64 u19.chan_.fid_), .pv (.str u19.chan_.path_), .pv (.str u19.chan_.name_), .pv (.bool u19.create_)], .var [.pv (.int .i64 1), .pv (.int .i64 (bif decide (0 < k14) then 2 else 0)), .pv (.str u19.chan_.name_), .pv (.str u10.from_.name_)]]⟩ ?_ ?_
        · refine AW.seq ?_
          refine AW.reg hS [(1, .pv (.str cwd2)), (2, .ref 0 0), (5, .pv (.str s13)), (6, .pv (.int .i64 i5)), (7, .ref 1 0), (8, .pv (.int .i64 k14)), (9, .ref 2 0), (10, .ref 3 0), (68, .pv (.bool (decide (0 < k14))))] [.var [.pv (.int .i64 n1.id_), .pv (.int .i64 n1.root_.dev_), .pv (.int .i64 n1.root_.id_), .pv (.int .i64 n1.root_.fid_), .pv (.str n1.root_.path_), .pv (.str n1.root_.name_), .pv (.slice (List.map Mount.pv n1.mounts_))], .var [.pv (.int .i64 u10.from_.dev_), .pv (.int .i64 u10.from_.id_), .pv (.int .i64 u10.from_.fid_), .pv (.str u10.from_.path_), .pv (.str u10.from_.name_), .pv (.slice (List.map Target.pv u10.to_))], .var [.pv (.int .i64 u19.chan_.dev_), .pv (.int .i64 u19.chan_.id_), .pv (.int .i64 u19.chan_.fid_), .pv (.str u19.chan_.path_), .pv (.str u19.chan_.name_), .pv (.bool u19.create_)], .var [.pv (.int .i64 1), .pv (.int .i64 0), .pv (.str u19.chan_.name_), .pv (.str u10.from_.name_)]] ?_ ?_
          · simp -implicitDefEqProofs only [RUNS, qindex, Nat.reduceAdd, Nat.reduceLeDiff, Nat.reduceSub, reduceIte, Nat.reduceEqDiff, Nat.reduceLT, reduceCtorEq, Nat.reduceMul, if_true, if_false, eq_self, ne_eq, env_bT, T_3, NsOp.pv_eq, Word.pv_eq, Chan.pv_eq, Target.pv_eq, P38_eq, Mount.pv_eq, P31_eq, Ns.pv_eq, eqT_3]
          refine AW.cond (b := decide (0 < k14)) rfl (fun hb23 => ?_) (fun hb23 => ?_)
          · refine AW.reg hS [(1, .pv (.str cwd2)), (2, .ref 0 0), (5, .pv (.str s13)), (6, .pv (.int .i64 i5)), (7, .ref 1 0), (8, .pv (.int .i64 k14)), (9, .ref 2 0), (10, .ref 3 0)] [.var [.pv (.int .i64 n1.id_), .pv (.int .i64 n1.root_.dev_), .pv (.int .i64 n1.root_.id_), .pv (.int .i64 n1.root_.fid_), .pv (.str n1.root_.path_), .pv (.str n1.root_.name_), .pv (.slice (List.map Mount.pv n1.mounts_))], .var [.pv (.int .i64 u10.from_.dev_), .pv (.int .i64 u10.from_.id_), .pv (.int .i64 u10.from_.fid_), .pv (.str u10.from_.path_), .pv (.str u10.from_.name_), .pv (.slice (List.map Target.pv u10.to_))], .var [.pv (.int .i64 u19.chan_.dev_), .pv (.int .i64 u19.chan_.id_), .pv (.int .i64 u19.chan_.fid_), .pv (.str u19.chan_.path_), .pv (.str u19.chan_.name_), .pv (.bool u19.create_)], .var [.pv (.int .i64 1), .pv (.int .i64 2), .pv (.str u19.chan_.name_), .pv (.str u10.from_.name_)]] ?_ ?_
            · simp -implicitDefEqProofs only [RUNS, qindex, Nat.reduceAdd, Nat.reduceLeDiff, Nat.reduceSub, reduceIte, Nat.reduceEqDiff, Nat.reduceLT, reduceCtorEq, Nat.reduceMul, if_true, if_false, eq_self, ne_eq, env_bT, T_3, T_23, NsOp.pv_eq, Word.pv_eq, Chan.pv_eq, Target.pv_eq, P38_eq, Mount.pv_eq, P31_eq, Ns.pv_eq]
            exact Weak.of_eq (Weak.slots (L := [(1, .pv (.str cwd2)), (2, .ref 0 0), (5, .pv (.str s13)), (6, .pv (.int .i64 i5)), (7, .ref 1 0), (8, .pv (.int .i64 k14)), (9, .ref 2 0), (10, .ref 3 0)]) ⟨rfl, rfl, rfl, rfl, rfl, rfl, rfl, rfl, trivial⟩) (by simp only [hb23, cond_true, cond_false, Bool.true_or, Bool.false_or, Bool.true_and, Bool.false_and, Bool.or_true, Bool.or_false, Bool.and_true, Bool.and_false, Bool.not_true, Bool.not_false])
          · refine AW.skip ?_
            exact Weak.of_eq (Weak.slots (L := [(1, .pv (.str cwd2)), (2, .ref 0 0), (5, .pv (.str s13)), (6, .pv (.int .i64 i5)), (7, .ref 1 0), (8, .pv (.int .i64 k14)), (9, .ref 2 0), (10, .ref 3 0)]) ⟨rfl, rfl, rfl, rfl, rfl, rfl, rfl, rfl, trivial⟩) (by simp only [hb23, cond_true, cond_false, Bool.true_or, Bool.false_or, Bool.true_and, Bool.false_and, Bool.or_true, Bool.or_false, Bool.and_true, Bool.and_false, Bool.not_true, Bool.not_false])
        refine AW.seqM ⟨sl [(1, .pv (.str cwd2)), (2, .ref 0 0), (5, .pv (.str s13)), (6, .pv (.int .i64 i5)), (7, .ref 1 0), (8, .pv (.int .i64 k14)), (10, .ref 3 0)], 87, [.var [.pv (.int .i64 n1.id_), .pv (.int .i64 n1.root_.dev_), .pv (.int .i64 n1.root_.id_), .pv (.int .i64 n1.root_.fid_), .pv (.str n1.root_.path_), .pv (.str n1.root_.name_), .pv (.slice (List.map Mount.pv n1.mounts_))], .var [.pv (.int .i64 u10.from_.dev_), .pv (.int .i64 u10.from_.id_), .pv (.int .i64 u10.from_.fid_), .pv (.str u10.from_.path_), .pv (.str u10.from_.name_), .pv (.slice (List.map Target.pv u10.to_))], .var [.pv (.int .i64 u19.chan_.dev_), .pv (.int .i64 u19.chan_.id_), .pv (.int .i64 u19.chan_.fid_), .pv (.str u19.chan_.path_), .pv (.str u19.chan_.name_), .pv (.bool u19.create_)], .var [.pv (.int .i64 1), .pv (.int .i64 (bif u19.create_ then IntKind.wrap .i64 ((bif decide (0 < k14) then 2 else 0) + 4) else (bif decide (0 < k14) then 2 else 0))), .pv (.str u19.chan_.name_), .pv (.str u10.from_.name_)]]⟩ ?_ ?_
        · refine AW.seq ?_
          refine AW.reg hS [(1, .pv (.str cwd2)), (2, .ref 0 0), (5, .pv (.str s13)), (6, .pv (.int .i64 i5)), (7, .ref 1 0), (8, .pv (.int .i64 k14)), (10, .ref 3 0), (71, .pv (.bool u19.create_))] [.var [.pv (.int .i64 n1.id_), .pv (.int .i64 n1.root_.dev_), .pv (.int .i64 n1.root_.id_), .pv (.int .i64 n1.root_.fid_), .pv (.str n1.root_.path_), .pv (.str n1.root_.name_), .pv (.slice (List.map Mount.pv n1.mounts_))], .var [.pv (.int .i64 u10.from_.dev_), .pv (.int .i64 u10.from_.id_), .pv (.int .i64 u10.from_.fid_), .pv (.str u10.from_.path_), .pv (.str u10.from_.name_), .pv (.slice (List.map Target.pv u10.to_))], .var [.pv (.int .i64 u19.chan_.dev_), .pv (.int .i64 u19.chan_.id_), .pv (.int .i64 u19.chan_.fid_), .pv (.str u19.chan_.path_), .pv (.str u19.chan_.name_), .pv (.bool u19.create_)], .var [.pv (.int .i64 1), .pv (.int .i64 (bif decide (0 < k14) then 2 else 0)), .pv (.str u19.chan_.name_), .pv (.str u10.from_.name_)]] ?_ ?_
          · simp -implicitDefEqProofs only [RUNS, qindex, Nat.reduceAdd, Nat.reduceLeDiff, Nat.reduceSub, reduceIte, Nat.reduceEqDiff, Nat.reduceLT, reduceCtorEq, Nat.reduceMul, if_true, if_false, eq_self, ne_eq, env_bT, T_4, T_42, NsOp.pv_eq, Word.pv_eq, Chan.pv_eq, Target.pv_eq, P38_eq, Mount.pv_eq, P31_eq, Ns.pv_eq]
          refine AW.cond (b := u19.create_) rfl (fun hb24 => ?_) (fun hb24 => ?_)
          · refine AW.reg hS [(1, .pv (.str cwd2)), (2, .ref 0 0), (5, .pv (.str s13)), (6, .pv (.int .i64 i5)), (7, .ref 1 0), (8, .pv (.int .i64 k14)), (10, .ref 3 0)] [.var [.pv (.int .i64 n1.id_), .pv (.int .i64 n1.root_.dev_), .pv (.int .i64 n1.root_.id_), .pv (.int .i64 n1.root_.fid_), .pv (.str n1.root_.path_), .pv (.str n1.root_.name_), .pv (.slice (List.map Mount.pv n1.mounts_))], .var [.pv (.int .i64 u10.from_.dev_), .pv (.int .i64 u10.from_.id_), .pv (.int .i64 u10.from_.fid_), .pv (.str u10.from_.path_), .pv (.str u10.from_.name_), .pv (.slice (List.map Target.pv u10.to_))], .var [.pv (.int .i64 u19.chan_.dev_), .pv (.int .i64 u19.chan_.id_), .pv (.int .i64 u19.chan_.fid_), .pv (.str u19.chan_.path_), .pv (.str u19.chan_.name_), .pv (.bool u19.create_)], .var [.pv (.int .i64 1), .pv (.int .i64 (IntKind.wrap .i64 ((bif decide (0 < k14) then 2 else 0) + 4))), .pv (.str u19.chan_.name_), .pv (.str u10.from_.name_)]] ?_ ?_
            · simp -implicitDefEqProofs only [RUNS, qindex, Nat.reduceAdd, Nat.reduceLeDiff, Nat.reduceSub, reduceIte, Nat.reduceEqDiff, Nat.reduceLT, reduceCtorEq, Nat.reduceMul, if_true, if_false, eq_self, ne_eq, env_bT, T_3, T_23, NsOp.pv_eq, Word.pv_eq, Chan.pv_eq, Target.pv_eq, P38_eq, Mount.pv_eq, P31_eq, Ns.pv_eq, eqT_3]
            exact Weak.of_eq (Weak.slots (L := [(1, .pv (.str cwd2)), (2, .ref 0 0), (5, .pv (.str s13)), (6, .pv (.int .i64 i5)), (7, .ref 1 0), (8, .pv (.int .i64 k14)), (10, .ref 3 0)]) ⟨rfl, rfl, rfl, rfl, rfl, rfl, rfl, trivial⟩) (by simp only [hb24, cond_true, cond_false, Bool.true_or, Bool.false_or, Bool.true_and, Bool.false_and, Bool.or_true, Bool.or_false, Bool.and_true, Bool.and_false, Bool.not_true, Bool.not_false])
          · refine AW.skip ?_
            exact Weak.of_eq (Weak.slots (L := [(1, .pv (.str cwd2)), (2, .ref 0 0), (5, .pv (.str s13)), (6, .pv (.int .i64 i5)), (7, .ref 1 0), (8, .pv (.int .i64 k14)), (10, .ref 3 0)]) ⟨rfl, rfl, rfl, rfl, rfl, rfl, rfl, trivial⟩) (by simp only [hb24, cond_true, cond_false, Bool.true_or, Bool.false_or, Bool.true_and, Bool.false_and, Bool.or_true, Bool.or_false, Bool.and_true, Bool.and_false, Bool.not_true, Bool.not_false])
        replace h := Option.bind_eq_some_iff.1 h; obtain ⟨r25, q26, h⟩ := h
        have f27 := c_F24 (NsOp.mk 1 (bif u19.create_ then IntKind.wrap .i64 ((bif decide (0 < k14) then 2 else 0) + 4) else (bif decide (0 < k14) then 2 else 0)) u19.chan_.name_ u10.from_.name_) r25 q26
        try dsimp only at f27
        replace h := Option.bind_eq_some_iff.1 h; obtain ⟨s28, q29, h⟩ := h
        have f30 := catO_f q29
        try simp only [List.length_cons, List.length_nil, Nat.zero_add, Nat.reduceAdd, Nat.reduceLeDiff, Nat.add_zero, Nat.reduceMul] at f30
        replace h := Option.bind_eq_some_iff.1 h; obtain ⟨s31, q32, h⟩ := h
        have f33 := catO_f q32
        try simp only [List.length_cons, List.length_nil, Nat.zero_add, Nat.reduceAdd, Nat.reduceLeDiff, Nat.add_zero, Nat.reduceMul] at f33
        refine AW.reg hS [(1, .pv (.str cwd2)), (2, .ref 0 0), (5, .pv (.str s31)), (6, .pv (.int .i64 i5)), (7, .ref 1 0), (8, .pv (.int .i64 k14))] [.var [.pv (.int .i64 n1.id_), .pv (.int .i64 n1.root_.dev_), .pv (.int .i64 n1.root_.id_), .pv (.int .i64 n1.root_.fid_), .pv (.str n1.root_.path_), .pv (.str n1.root_.name_), .pv (.slice (List.map Mount.pv n1.mounts_))], .var [.pv (.int .i64 u10.from_.dev_), .pv (.int .i64 u10.from_.id_), .pv (.int .i64 u10.from_.fid_), .pv (.str u10.from_.path_), .pv (.str u10.from_.name_), .pv (.slice (List.map Target.pv u10.to_))], .var [.pv (.int .i64 u19.chan_.dev_), .pv (.int .i64 u19.chan_.id_), .pv (.int .i64 u19.chan_.fid_), .pv (.str u19.chan_.path_), .pv (.str u19.chan_.name_), .pv (.bool u19.create_)], .var [.pv (.int .i64 1), .pv (.int .i64 (bif u19.create_ then IntKind.wrap .i64 ((bif decide (0 < k14) then 2 else 0) + 4) else (bif decide (0 < k14) then 2 else 0))), .pv (.str u19.chan_.name_), .pv (.str u10.from_.name_)]] ?_ ?_
        · simp -implicitDefEqProofs only [RUNS, qindex, Nat.reduceAdd, Nat.reduceLeDiff, Nat.reduceSub, reduceIte, Nat.reduceEqDiff, Nat.reduceLT, reduceCtorEq, Nat.reduceMul, if_true, if_false, eq_self, ne_eq, env_bT, T_9, T_23, NsOp.pv_eq, Word.pv_eq, Chan.pv_eq, Target.pv_eq, P38_eq, Mount.pv_eq, P31_eq, Ns.pv_eq, pf_24, f27, eqT_9, f30.1, f30.2, f33.1, f33.2]
        refine AW.reg hS [(1, .pv (.str cwd2)), (2, .ref 0 0), (5, .pv (.str s31)), (6, .pv (.int .i64 i5)), (7, .ref 1 0), (8, .pv (.int .i64 (IntKind.wrap .i64 (k14 + 1))))] [.var [.pv (.int .i64 n1.id_), .pv (.int .i64 n1.root_.dev_), .pv (.int .i64 n1.root_.id_), .pv (.int .i64 n1.root_.fid_), .pv (.str n1.root_.path_), .pv (.str n1.root_.name_), .pv (.slice (List.map Mount.pv n1.mounts_))], .var [.pv (.int .i64 u10.from_.dev_), .pv (.int .i64 u10.from_.id_), .pv (.int .i64 u10.from_.fid_), .pv (.str u10.from_.path_), .pv (.str u10.from_.name_), .pv (.slice (List.map Target.pv u10.to_))], .var [.pv (.int .i64 u19.chan_.dev_), .pv (.int .i64 u19.chan_.id_), .pv (.int .i64 u19.chan_.fid_), .pv (.str u19.chan_.path_), .pv (.str u19.chan_.name_), .pv (.bool u19.create_)], .var [.pv (.int .i64 1), .pv (.int .i64 (bif u19.create_ then IntKind.wrap .i64 ((bif decide (0 < k14) then 2 else 0) + 4) else (bif decide (0 < k14) then 2 else 0))), .pv (.str u19.chan_.name_), .pv (.str u10.from_.name_)]] ?_ ?_
        · simp -implicitDefEqProofs only [RUNS, qindex, Nat.reduceAdd, Nat.reduceLeDiff, Nat.reduceSub, reduceIte, Nat.reduceEqDiff, Nat.reduceLT, reduceCtorEq, Nat.reduceMul, if_true, if_false, eq_self, ne_eq, env_bT, T_3, NsOp.pv_eq, Word.pv_eq, Chan.pv_eq, Target.pv_eq, P38_eq, Mount.pv_eq, P31_eq, Ns.pv_eq, eqT_3]
        exact ⟨(m17, (s31, IntKind.wrap .i64 (k14 + 1))), h, (Weak.norm (m := 2) (Nat.le_of_ble_eq_true rfl) ⟨rfl, rfl, rfl, rfl, rfl, rfl, trivial⟩ rfl rfl rfl), Nat.lt_succ_self _⟩
    · replace h := bif_f hb18 h
      refine AW.exit ?_
      refine AW.reg hS [(1, .pv (.str cwd2)), (2, .ref 0 0), (5, .pv (.str s13)), (6, .pv (.int .i64 (IntKind.wrap .i64 (i5 + 1))))] [.var [.pv (.int .i64 n1.id_), .pv (.int .i64 n1.root_.dev_), .pv (.int .i64 n1.root_.id_), .pv (.int .i64 n1.root_.fid_), .pv (.str n1.root_.path_), .pv (.str n1.root_.name_), .pv (.slice (List.map Mount.pv n1.mounts_))], .var [.pv (.int .i64 u10.from_.dev_), .pv (.int .i64 u10.from_.id_), .pv (.int .i64 u10.from_.fid_), .pv (.str u10.from_.path_), .pv (.str u10.from_.name_), .pv (.slice (List.map Target.pv u10.to_))]] ?_ ?_
      · simp -implicitDefEqProofs only [RUNS, qindex, Nat.reduceAdd, Nat.reduceLeDiff, Nat.reduceSub, reduceIte, Nat.reduceEqDiff, Nat.reduceLT, reduceCtorEq, Nat.reduceMul, if_true, if_false, eq_self, ne_eq, env_bT, T_3, NsOp.pv_eq, Word.pv_eq, Chan.pv_eq, Target.pv_eq, P38_eq, Mount.pv_eq, P31_eq, Ns.pv_eq, eqT_3]
      exact ⟨(m8, (s13, IntKind.wrap .i64 (i5 + 1))), h, (Weak.norm (m := 1) (Nat.le_of_ble_eq_true rfl) ⟨rfl, rfl, rfl, rfl, trivial⟩ rfl rfl rfl), Nat.lt_succ_self _⟩
  · replace h := bif_f hb9 h
    refine AW.exit ?_
    refine AW.seq ?_
    replace h := Option.bind_eq_some_iff.1 h; obtain ⟨r35, q36, h⟩ := h
    have f37 := c_F24 (NsOp.mk 5 0 cwd2 []) r35 q36
    try dsimp only at f37
    replace h := Option.bind_eq_some_iff.1 h; obtain ⟨s38, q39, h⟩ := h
    have f40 := catO_f q39
    try simp only [List.length_cons, List.length_nil, Nat.zero_add, Nat.reduceAdd, Nat.reduceLeDiff, Nat.add_zero, Nat.reduceMul] at f40
    replace h := Option.bind_eq_some_iff.1 h; obtain ⟨s41, q42, h⟩ := h
    have f43 := catO_f q42
    try simp only [List.length_cons, List.length_nil, Nat.zero_add, Nat.reduceAdd, Nat.reduceLeDiff, Nat.add_zero, Nat.reduceMul] at f43
    refine AW.reg hS [(4, .pv (.str s41))] [.var [.pv (.int .i64 n1.id_), .pv (.int .i64 n1.root_.dev_), .pv (.int .i64 n1.root_.id_), .pv (.int .i64 n1.root_.fid_), .pv (.str n1.root_.path_), .pv (.str n1.root_.name_), .pv (.slice (List.map Mount.pv n1.mounts_))]] ?_ ?_
    · simp -implicitDefEqProofs only [RUNS, qindex, Nat.reduceAdd, Nat.reduceLeDiff, Nat.reduceSub, reduceIte, Nat.reduceEqDiff, Nat.reduceLT, reduceCtorEq, Nat.reduceMul, if_true, if_false, eq_self, ne_eq, env_bT, T_9, T_23, NsOp.pv_eq, Word.pv_eq, Chan.pv_eq, Target.pv_eq, P38_eq, Mount.pv_eq, P31_eq, Ns.pv_eq, pf_24, f37, eqT_9, f40.1, f40.2, f43.1, f43.2]
    refine AW.ret ?_
    cases h
    show finish _ _ _ _ _ = _
    first | rfl | (simp [finish, resOf, renArgs, toPV, selObjs, sl])

set_option maxHeartbeats 4000000 in
theorem g_F4 {O : Orc} (hS : Sound env O) (hpf : O.pf = pfn) (c_F12 : C_F12 O) (c_F9 : C_F9 O) (c_F13 : C_F13 O) (c_F14 : C_F14 O) (n1 : Ns) (cwd2 : Str) (r3 : Bool) (h : F4 n1 cwd2 = some r3) : Good env 4 [.pv (.agg [.int .i64 n1.id_, .int .i64 n1.root_.dev_, .int .i64 n1.root_.id_, .int .i64 n1.root_.fid_, .str n1.root_.path_, .str n1.root_.name_, .slice (List.map Mount.pv n1.mounts_)]), .pv (.str cwd2)] [] [.pv (.bool r3)] [] := by
  have pf_9 : O.pf 9 = true := by rw [hpf]; rfl
  have pf_12 : O.pf 12 = true := by rw [hpf]; rfl
  have pf_13 : O.pf 13 = true := by rw [hpf]; rfl
  have pf_14 : O.pf 14 = true := by rw [hpf]; rfl
  refine Good.start (fn := Tryd.f4) (N := 24) rfl rfl rfl (by simp) [] _ rfl rfl ?_
  rw [F4] at h
  refine AW.seq ?_
  refine AW.reg hS [(1, .pv (.str cwd2)), (2, .ref 0 0)] [.var [.pv (.int .i64 n1.id_), .pv (.int .i64 n1.root_.dev_), .pv (.int .i64 n1.root_.id_), .pv (.int .i64 n1.root_.fid_), .pv (.str n1.root_.path_), .pv (.str n1.root_.name_), .pv (.slice (List.map Mount.pv n1.mounts_))]] ?_ ?_
  · simp -implicitDefEqProofs only [RUNS, qindex, Nat.reduceAdd, Nat.reduceLeDiff, Nat.reduceSub, reduceIte, Nat.reduceEqDiff, Nat.reduceLT, reduceCtorEq, Nat.reduceMul, if_true, if_false, eq_self, ne_eq, env_bT, T_33, NsOp.pv_eq, Word.pv_eq, Chan.pv_eq, Target.pv_eq, P38_eq, Mount.pv_eq, P31_eq, Ns.pv_eq]
  refine AW.seq ?_
  refine AW.seq ?_
  replace h := Option.bind_eq_some_iff.1 h; obtain ⟨r4, q5, h⟩ := h
  have f6 := c_F12 n1 r4 q5
  try dsimp only at f6
  refine AW.reg hS [(1, .pv (.str cwd2)), (2, .ref 0 0), (12, .pv (.bool (!r4 || decide (1100 < (cwd2.length : Int)))))] [.var [.pv (.int .i64 n1.id_), .pv (.int .i64 n1.root_.dev_), .pv (.int .i64 n1.root_.id_), .pv (.int .i64 n1.root_.fid_), .pv (.str n1.root_.path_), .pv (.str n1.root_.name_), .pv (.slice (List.map Mount.pv n1.mounts_))]] ?_ ?_
  · clear h
    (simp -implicitDefEqProofs only [RUNS, qindex, Nat.reduceAdd, Nat.reduceLeDiff, Nat.reduceSub, reduceIte, Nat.reduceEqDiff, Nat.reduceLT, reduceCtorEq, Nat.reduceMul, if_true, if_false, eq_self, ne_eq, env_bT, T_3, T_9, T_33, NsOp.pv_eq, Word.pv_eq, Chan.pv_eq, Target.pv_eq, P38_eq, Mount.pv_eq, P31_eq, Ns.pv_eq, pf_12, f6, eqT_3]); repeat' (split <;> rename_i hb <;> (try simp only [HBS, ge_iff_le, gt_iff_lt] at hb) <;> simp -implicitDefEqProofs only [RUNS, qindex, Nat.reduceAdd, Nat.reduceLeDiff, Nat.reduceSub, reduceIte, Nat.reduceEqDiff, Nat.reduceLT, reduceCtorEq, Nat.reduceMul, if_true, if_false, eq_self, ne_eq, env_bT, T_3, T_9, T_33, NsOp.pv_eq, Word.pv_eq, Chan.pv_eq, Target.pv_eq, P38_eq, Mount.pv_eq, P31_eq, Ns.pv_eq, pf_12, f6, eqT_3, *, decide_true, decide_false, Decidable.not_not, not_false_eq_true, not_true_eq_false])
    all_goals (first | (simp only [BOOLS]; done) | (simp [*]; done) | ((try simp only [CLOS, beq_iff_eq, bne_iff_ne, ne_eq] at *) <;> omega) | (simp_all; done) | (simp_all <;> omega))
  refine AW.cond (b := (!r4 || decide (1100 < (cwd2.length : Int)))) rfl (fun hb7 => ?_) (fun hb7 => ?_)
  · replace h := bif_t hb7 h
    refine AW.seq ?_
    replace h := Option.bind_eq_some_iff.1 h; obtain ⟨r8, q9, h⟩ := h
    have f10 := c_F9 r8 q9
    try dsimp only at f10
    refine AW.reg hS [(4, .pv (.bool r8))] [.var [.pv (.int .i64 n1.id_), .pv (.int .i64 n1.root_.dev_), .pv (.int .i64 n1.root_.id_), .pv (.int .i64 n1.root_.fid_), .pv (.str n1.root_.path_), .pv (.str n1.root_.name_), .pv (.slice (List.map Mount.pv n1.mounts_))]] ?_ ?_
    · simp -implicitDefEqProofs only [RUNS, qindex, Nat.reduceAdd, Nat.reduceLeDiff, Nat.reduceSub, reduceIte, Nat.reduceEqDiff, Nat.reduceLT, reduceCtorEq, Nat.reduceMul, if_true, if_false, eq_self, ne_eq, env_bT, NsOp.pv_eq, Word.pv_eq, Chan.pv_eq, Target.pv_eq, P38_eq, Mount.pv_eq, P31_eq, Ns.pv_eq, pf_9, f10]
    refine AW.ret ?_
    cases h
    show finish _ _ _ _ _ = _
    first | rfl | (simp [finish, resOf, renArgs, toPV, selObjs, sl])
  · replace h := bif_f hb7 h
    refine AW.skip ?_
    refine AW.seq ?_
    replace h := Option.bind_eq_some_iff.1 h; obtain ⟨r11, q12, h⟩ := h
    have f13 := c_F13 n1 cwd2 r11 q12
    try dsimp only at f13
    replace h := Option.bind_eq_some_iff.1 h; obtain ⟨r14, q15, h⟩ := h
    have f16 := c_F14 n1 cwd2 r14 q15
    try dsimp only at f16
    replace h := Option.bind_eq_some_iff.1 h; obtain ⟨r17, q18, h⟩ := h
    have f19 := fun hg => c_F9 r17 (guardO_t q18 hg)
    try dsimp only at f19
    refine AW.dreg mixed hS (hpf ▸ (by kernel_rfl : orderOK pfn _ = true)) [(4, .pv (.bool (decide (r11 = r14) && r17)))] [.var [.pv (.int .i64 n1.id_), .pv (.int .i64 n1.root_.dev_), .pv (.int .i64 n1.root_.id_), .pv (.int .i64 n1.root_.fid_), .pv (.str n1.root_.path_), .pv (.str n1.root_.name_), .pv (.slice (List.map Mount.pv n1.mounts_))]] ?_ ?_
    · clear h
      (simp -implicitDefEqProofs only [RUNS, qindex, Nat.reduceAdd, Nat.reduceLeDiff, Nat.reduceSub, reduceIte, Nat.reduceEqDiff, Nat.reduceLT, reduceCtorEq, Nat.reduceMul, if_true, if_false, eq_self, ne_eq, env_bT, T_9, T_33, NsOp.pv_eq, Word.pv_eq, Chan.pv_eq, Target.pv_eq, P38_eq, Mount.pv_eq, P31_eq, Ns.pv_eq, pf_13, f13, pf_14, f16, eqT_9, pf_9, f19]); repeat' (split <;> rename_i hb <;> (try simp only [HBS, ge_iff_le, gt_iff_lt] at hb) <;> simp -implicitDefEqProofs only [RUNS, qindex, Nat.reduceAdd, Nat.reduceLeDiff, Nat.reduceSub, reduceIte, Nat.reduceEqDiff, Nat.reduceLT, reduceCtorEq, Nat.reduceMul, if_true, if_false, eq_self, ne_eq, env_bT, T_9, T_33, NsOp.pv_eq, Word.pv_eq, Chan.pv_eq, Target.pv_eq, P38_eq, Mount.pv_eq, P31_eq, Ns.pv_eq, pf_13, f13, pf_14, f16, eqT_9, pf_9, f19, *, decide_true, decide_false, Decidable.not_not, not_false_eq_true, not_true_eq_false])
      all_goals (first | (simp only [BOOLS]; done) | (simp [*]; done) | ((try simp only [CLOS, beq_iff_eq, bne_iff_ne, ne_eq] at *) <;> omega) | (simp_all; done) | (simp_all <;> omega))
    refine AW.ret ?_
    cases h
    show finish _ _ _ _ _ = _
    first | rfl | (simp [finish, resOf, renArgs, toPV, selObjs, sl])

set_option maxHeartbeats 4000000 in
theorem g_F5 {O : Orc} (hS : Sound env O) (hpf : O.pf = pfn) (c_F12 : C_F12 O) (c_F15 : C_F15 O) (c_F9 : C_F9 O) (c_F13 : C_F13 O) (c_F16 : C_F16 O) (n1 : Ns) (cwd2 : Str) (r3 : Bool) (h : F5 n1 cwd2 = some r3) : Good env 5 [.pv (.agg [.int .i64 n1.id_, .int .i64 n1.root_.dev_, .int .i64 n1.root_.id_, .int .i64 n1.root_.fid_, .str n1.root_.path_, .str n1.root_.name_, .slice (List.map Mount.pv n1.mounts_)]), .pv (.str cwd2)] [] [.pv (.bool r3)] [] := by
  have pf_9 : O.pf 9 = true := by rw [hpf]; rfl
  have pf_12 : O.pf 12 = true := by rw [hpf]; rfl
  have pf_13 : O.pf 13 = true := by rw [hpf]; rfl
  have pf_15 : O.pf 15 = true := by rw [hpf]; rfl
  have pf_16 : O.pf 16 = true := by rw [hpf]; rfl
  refine Good.start (fn := Tryd.f5) (N := 134) rfl rfl rfl (by simp) [] _ rfl rfl ?_
  rw [F5] at h
  refine AW.seq ?_
  refine AW.reg hS [(1, .pv (.str cwd2)), (2, .ref 0 0)] [.var [.pv (.int .i64 n1.id_), .pv (.int .i64 n1.root_.dev_), .pv (.int .i64 n1.root_.id_), .pv (.int .i64 n1.root_.fid_), .pv (.str n1.root_.path_), .pv (.str n1.root_.name_), .pv (.slice (List.map Mount.pv n1.mounts_))]] ?_ ?_
  · simp -implicitDefEqProofs only [RUNS, qindex, Nat.reduceAdd, Nat.reduceLeDiff, Nat.reduceSub, reduceIte, Nat.reduceEqDiff, Nat.reduceLT, reduceCtorEq, Nat.reduceMul, if_true, if_false, eq_self, ne_eq, env_bT, T_33, NsOp.pv_eq, Word.pv_eq, Chan.pv_eq, Target.pv_eq, P38_eq, Mount.pv_eq, P31_eq, Ns.pv_eq]
  refine AW.seq ?_
  refine AW.seq ?_
  replace h := Option.bind_eq_some_iff.1 h; obtain ⟨r4, q5, h⟩ := h
  have f6 := c_F12 n1 r4 q5
  try dsimp only at f6
  replace h := Option.bind_eq_some_iff.1 h; obtain ⟨r7, q8, h⟩ := h
  have f9 := fun hg => c_F15 cwd2 r7 (guardO_t q8 hg)
  try dsimp only at f9
  refine AW.reg hS [(1, .pv (.str cwd2)), (2, .ref 0 0), (22, .pv (.bool (!r4 || !r7)))] [.var [.pv (.int .i64 n1.id_), .pv (.int .i64 n1.root_.dev_), .pv (.int .i64 n1.root_.id_), .pv (.int .i64 n1.root_.fid_), .pv (.str n1.root_.path_), .pv (.str n1.root_.name_), .pv (.slice (List.map Mount.pv n1.mounts_))]] ?_ ?_
  · clear h
    (simp -implicitDefEqProofs only [RUNS, qindex, Nat.reduceAdd, Nat.reduceLeDiff, Nat.reduceSub, reduceIte, Nat.reduceEqDiff, Nat.reduceLT, reduceCtorEq, Nat.reduceMul, if_true, if_false, eq_self, ne_eq, env_bT, T_9, T_33, NsOp.pv_eq, Word.pv_eq, Chan.pv_eq, Target.pv_eq, P38_eq, Mount.pv_eq, P31_eq, Ns.pv_eq, pf_12, f6, pf_15, f9]); repeat' (split <;> rename_i hb <;> (try simp only [HBS, ge_iff_le, gt_iff_lt] at hb) <;> simp -implicitDefEqProofs only [RUNS, qindex, Nat.reduceAdd, Nat.reduceLeDiff, Nat.reduceSub, reduceIte, Nat.reduceEqDiff, Nat.reduceLT, reduceCtorEq, Nat.reduceMul, if_true, if_false, eq_self, ne_eq, env_bT, T_9, T_33, NsOp.pv_eq, Word.pv_eq, Chan.pv_eq, Target.pv_eq, P38_eq, Mount.pv_eq, P31_eq, Ns.pv_eq, pf_12, f6, pf_15, f9, *, decide_true, decide_false, Decidable.not_not, not_false_eq_true, not_true_eq_false])
    all_goals (first | (simp only [BOOLS]; done) | (simp [*]; done) | ((try simp only [CLOS, beq_iff_eq, bne_iff_ne, ne_eq] at *) <;> omega) | (simp_all; done) | (simp_all <;> omega))
  refine AW.cond (b := (!r4 || !r7)) rfl (fun hb10 => ?_) (fun hb10 => ?_)
  · replace h := bif_t hb10 h
    refine AW.seq ?_
    replace h := Option.bind_eq_some_iff.1 h; obtain ⟨r11, q12, h⟩ := h
    have f13 := c_F9 r11 q12
    try dsimp only at f13
    refine AW.reg hS [(4, .pv (.bool r11))] [.var [.pv (.int .i64 n1.id_), .pv (.int .i64 n1.root_.dev_), .pv (.int .i64 n1.root_.id_), .pv (.int .i64 n1.root_.fid_), .pv (.str n1.root_.path_), .pv (.str n1.root_.name_), .pv (.slice (List.map Mount.pv n1.mounts_))]] ?_ ?_
    · simp -implicitDefEqProofs only [RUNS, qindex, Nat.reduceAdd, Nat.reduceLeDiff, Nat.reduceSub, reduceIte, Nat.reduceEqDiff, Nat.reduceLT, reduceCtorEq, Nat.reduceMul, if_true, if_false, eq_self, ne_eq, env_bT, NsOp.pv_eq, Word.pv_eq, Chan.pv_eq, Target.pv_eq, P38_eq, Mount.pv_eq, P31_eq, Ns.pv_eq, pf_9, f13]
    refine AW.ret ?_
    cases h
    show finish _ _ _ _ _ = _
    first | rfl | (simp [finish, resOf, renArgs, toPV, selObjs, sl])
  · replace h := bif_f hb10 h
    refine AW.skip ?_
    refine AW.seq ?_
    refine AW.reg hS [(1, .pv (.str cwd2)), (2, .ref 0 0), (5, .pv (.int .i64 1))] [.var [.pv (.int .i64 n1.id_), .pv (.int .i64 n1.root_.dev_), .pv (.int .i64 n1.root_.id_), .pv (.int .i64 n1.root_.fid_), .pv (.str n1.root_.path_), .pv (.str n1.root_.name_), .pv (.slice (List.map Mount.pv n1.mounts_))]] ?_ ?_
    · simp -implicitDefEqProofs only [RUNS, qindex, Nat.reduceAdd, Nat.reduceLeDiff, Nat.reduceSub, reduceIte, Nat.reduceEqDiff, Nat.reduceLT, reduceCtorEq, Nat.reduceMul, if_true, if_false, eq_self, ne_eq, env_bT, NsOp.pv_eq, Word.pv_eq, Chan.pv_eq, Target.pv_eq, P38_eq, Mount.pv_eq, P31_eq, Ns.pv_eq]
    refine AW.seq ?_
    refine AW.seq ?_
    refine AW.reg hS [(1, .pv (.str cwd2)), (2, .ref 0 0), (5, .pv (.int .i64 1)), (26, .pv (.int .i64 (n1.mounts_.length : Int))), (27, .pv (.int .i64 0))] [.var [.pv (.int .i64 n1.id_), .pv (.int .i64 n1.root_.dev_), .pv (.int .i64 n1.root_.id_), .pv (.int .i64 n1.root_.fid_), .pv (.str n1.root_.path_), .pv (.str n1.root_.name_), .pv (.slice (List.map Mount.pv n1.mounts_))]] ?_ ?_
    · simp -implicitDefEqProofs only [RUNS, qindex, Nat.reduceAdd, Nat.reduceLeDiff, Nat.reduceSub, reduceIte, Nat.reduceEqDiff, Nat.reduceLT, reduceCtorEq, Nat.reduceMul, if_true, if_false, eq_self, ne_eq, env_bT, T_31, T_33, T_40, NsOp.pv_eq, Word.pv_eq, Chan.pv_eq, Target.pv_eq, P38_eq, Mount.pv_eq, P31_eq, Ns.pv_eq]
    refine AW.block ?_
    refine AW.weak (Weak.slots (L := [(1, .pv (.str cwd2)), (2, .ref 0 0), (5, .pv (.int .i64 1)), (26, .pv (.int .i64 (n1.mounts_.length : Int))), (27, .pv (.int .i64 0))]) ⟨rfl, rfl, rfl, rfl, rfl, trivial⟩) ?_
    refine AW.loopI (α := Nat × Int × Int) (fun (_, many14, i15) => ⟨sl [(1, .pv (.str cwd2)), (2, .ref 0 0), (5, .pv (.int .i64 many14)), (26, .pv (.int .i64 (n1.mounts_.length : Int))), (27, .pv (.int .i64 i15))], 134, [.var [.pv (.int .i64 n1.id_), .pv (.int .i64 n1.root_.dev_), .pv (.int .i64 n1.root_.id_), .pv (.int .i64 n1.root_.fid_), .pv (.str n1.root_.path_), .pv (.str n1.root_.name_), .pv (.slice (List.map Mount.pv n1.mounts_))]]⟩) (fun x => iter (F5_b2 n1 cwd2) x.1 x.2 = some r3) (fun x => x.1) (BIG, (1, 0)) h ?_
    clear h
    intro ⟨n76, many14, i15⟩ h
    replace h := iter_some h; obtain ⟨m18, rfl, h⟩ := h
    rw [F5_b2] at h
    try dsimp only at h
    show AW _ _ _ _ ⟨sl [(1, .pv (.str cwd2)), (2, .ref 0 0), (5, .pv (.int .i64 many14)), (26, .pv (.int .i64 (n1.mounts_.length : Int))), (27, .pv (.int .i64 i15))], 134, [.var [.pv (.int .i64 n1.id_), .pv (.int .i64 n1.root_.dev_), .pv (.int .i64 n1.root_.id_), .pv (.int .i64 n1.root_.fid_), .pv (.str n1.root_.path_), .pv (.str n1.root_.name_), .pv (.slice (List.map Mount.pv n1.mounts_))]]⟩
    refine AW.seq ?_
    refine AW.reg hS [(1, .pv (.str cwd2)), (2, .ref 0 0), (5, .pv (.int .i64 many14)), (26, .pv (.int .i64 (n1.mounts_.length : Int))), (27, .pv (.int .i64 i15)), (28, .pv (.bool (decide (i15 < (n1.mounts_.length : Int)))))] [.var [.pv (.int .i64 n1.id_), .pv (.int .i64 n1.root_.dev_), .pv (.int .i64 n1.root_.id_), .pv (.int .i64 n1.root_.fid_), .pv (.str n1.root_.path_), .pv (.str n1.root_.name_), .pv (.slice (List.map Mount.pv n1.mounts_))]] ?_ ?_
    · simp -implicitDefEqProofs only [RUNS, qindex, Nat.reduceAdd, Nat.reduceLeDiff, Nat.reduceSub, reduceIte, Nat.reduceEqDiff, Nat.reduceLT, reduceCtorEq, Nat.reduceMul, if_true, if_false, eq_self, ne_eq, env_bT, T_3, NsOp.pv_eq, Word.pv_eq, Chan.pv_eq, Target.pv_eq, P38_eq, Mount.pv_eq, P31_eq, Ns.pv_eq, eqT_3]
    refine AW.seq ?_
    refine AW.cond (b := decide (i15 < (n1.mounts_.length : Int))) rfl (fun hb19 => ?_) (fun hb19 => ?_)
    · replace h := bif_t hb19 h
      refine AW.skip ?_
      refine AW.seq ?_
      refine AW.block ?_
      refine AW.seq ?_
      refine AW.reg hS [(1, .pv (.str cwd2)), (2, .ref 0 0), (5, .pv (.int .i64 many14)), (6, .pv (.int .i64 i15)), (26, .pv (.int .i64 (n1.mounts_.length : Int))), (27, .pv (.int .i64 i15))] [.var [.pv (.int .i64 n1.id_), .pv (.int .i64 n1.root_.dev_), .pv (.int .i64 n1.root_.id_), .pv (.int .i64 n1.root_.fid_), .pv (.str n1.root_.path_), .pv (.str n1.root_.name_), .pv (.slice (List.map Mount.pv n1.mounts_))]] ?_ ?_
      · simp -implicitDefEqProofs only [RUNS, qindex, Nat.reduceAdd, Nat.reduceLeDiff, Nat.reduceSub, reduceIte, Nat.reduceEqDiff, Nat.reduceLT, reduceCtorEq, Nat.reduceMul, if_true, if_false, eq_self, ne_eq, env_bT, NsOp.pv_eq, Word.pv_eq, Chan.pv_eq, Target.pv_eq, P38_eq, Mount.pv_eq, P31_eq, Ns.pv_eq]
      refine AW.seq ?_
      replace h := Option.bind_eq_some_iff.1 h; obtain ⟨u20, q21, h⟩ := h
      have f22 := lidx_f q21
      refine AW.reg hS [(1, .pv (.str cwd2)), (2, .ref 0 0), (5, .pv (.int .i64 many14)), (7, .ref 1 0), (26, .pv (.int .i64 (n1.mounts_.length : Int))), (27, .pv (.int .i64 i15))] [.var [.pv (.int .i64 n1.id_), .pv (.int .i64 n1.root_.dev_), .pv (.int .i64 n1.root_.id_), .pv (.int .i64 n1.root_.fid_), .pv (.str n1.root_.path_), .pv (.str n1.root_.name_), .pv (.slice (List.map Mount.pv n1.mounts_))], .var [.pv (.int .i64 u20.from_.dev_), .pv (.int .i64 u20.from_.id_), .pv (.int .i64 u20.from_.fid_), .pv (.str u20.from_.path_), .pv (.str u20.from_.name_), .pv (.slice (List.map Target.pv u20.to_))]] ?_ ?_
      · simp -implicitDefEqProofs only [RUNS, qindex, Nat.reduceAdd, Nat.reduceLeDiff, Nat.reduceSub, reduceIte, Nat.reduceEqDiff, Nat.reduceLT, reduceCtorEq, Nat.reduceMul, if_true, if_false, eq_self, ne_eq, env_bT, T_31, T_33, T_40, NsOp.pv_eq, Word.pv_eq, Chan.pv_eq, Target.pv_eq, P38_eq, Mount.pv_eq, P31_eq, Ns.pv_eq, f22.1, f22.2.1]
      refine AW.seq ?_
      refine AW.reg hS [(1, .pv (.str cwd2)), (2, .ref 0 0), (5, .pv (.int .i64 many14)), (7, .ref 1 0), (26, .pv (.int .i64 (n1.mounts_.length : Int))), (27, .pv (.int .i64 i15)), (37, .pv (.int .i64 (u20.to_.length : Int))), (38, .pv (.int .i64 0))] [.var [.pv (.int .i64 n1.id_), .pv (.int .i64 n1.root_.dev_), .pv (.int .i64 n1.root_.id_), .pv (.int .i64 n1.root_.fid_), .pv (.str n1.root_.path_), .pv (.str n1.root_.name_), .pv (.slice (List.map Mount.pv n1.mounts_))], .var [.pv (.int .i64 u20.from_.dev_), .pv (.int .i64 u20.from_.id_), .pv (.int .i64 u20.from_.fid_), .pv (.str u20.from_.path_), .pv (.str u20.from_.name_), .pv (.slice (List.map Target.pv u20.to_))]] ?_ ?_
      · simp -implicitDefEqProofs only [RUNS, qindex, Nat.reduceAdd, Nat.reduceLeDiff, Nat.reduceSub, reduceIte, Nat.reduceEqDiff, Nat.reduceLT, reduceCtorEq, Nat.reduceMul, if_true, if_false, eq_self, ne_eq, env_bT, T_38, T_40, T_42, NsOp.pv_eq, Word.pv_eq, Chan.pv_eq, Target.pv_eq, P38_eq, Mount.pv_eq, P31_eq, Ns.pv_eq]
      refine AW.block ?_
      refine AW.weak (Weak.slots (L := [(1, .pv (.str cwd2)), (2, .ref 0 0), (5, .pv (.int .i64 many14)), (7, .ref 1 0), (26, .pv (.int .i64 (n1.mounts_.length : Int))), (27, .pv (.int .i64 i15)), (37, .pv (.int .i64 (u20.to_.length : Int))), (38, .pv (.int .i64 0))]) ⟨rfl, rfl, rfl, rfl, rfl, rfl, rfl, rfl, trivial⟩) ?_
      refine AW.loopI (α := Nat × Int × Int) (fun (_, many23, i24) => ⟨sl [(1, .pv (.str cwd2)), (2, .ref 0 0), (5, .pv (.int .i64 many23)), (7, .ref 1 0), (26, .pv (.int .i64 (n1.mounts_.length : Int))), (27, .pv (.int .i64 i15)), (37, .pv (.int .i64 (u20.to_.length : Int))), (38, .pv (.int .i64 i24))], 134, [.var [.pv (.int .i64 n1.id_), .pv (.int .i64 n1.root_.dev_), .pv (.int .i64 n1.root_.id_), .pv (.int .i64 n1.root_.fid_), .pv (.str n1.root_.path_), .pv (.str n1.root_.name_), .pv (.slice (List.map Mount.pv n1.mounts_))], .var [.pv (.int .i64 u20.from_.dev_), .pv (.int .i64 u20.from_.id_), .pv (.int .i64 u20.from_.fid_), .pv (.str u20.from_.path_), .pv (.str u20.from_.name_), .pv (.slice (List.map Target.pv u20.to_))]]⟩) (fun x => iter (F5_b3 u20 (iter (F5_b2 n1 cwd2) m18) i15) x.1 x.2 = some r3) (fun x => x.1) (BIG, (many14, 0)) h ?_
      clear h
      intro ⟨n43, many23, i24⟩ h
      replace h := iter_some h; obtain ⟨m27, rfl, h⟩ := h
      rw [F5_b3] at h
      try dsimp only at h
      show AW _ _ _ _ ⟨sl [(1, .pv (.str cwd2)), (2, .ref 0 0), (5, .pv (.int .i64 many23)), (7, .ref 1 0), (26, .pv (.int .i64 (n1.mounts_.length : Int))), (27, .pv (.int .i64 i15)), (37, .pv (.int .i64 (u20.to_.length : Int))), (38, .pv (.int .i64 i24))], 134, [.var [.pv (.int .i64 n1.id_), .pv (.int .i64 n1.root_.dev_), .pv (.int .i64 n1.root_.id_), .pv (.int .i64 n1.root_.fid_), .pv (.str n1.root_.path_), .pv (.str n1.root_.name_), .pv (.slice (List.map Mount.pv n1.mounts_))], .var [.pv (.int .i64 u20.from_.dev_), .pv (.int .i64 u20.from_.id_), .pv (.int .i64 u20.from_.fid_), .pv (.str u20.from_.path_), .pv (.str u20.from_.name_), .pv (.slice (List.map Target.pv u20.to_))]]⟩
      refine AW.seq ?_
      refine AW.reg hS [(1, .pv (.str cwd2)), (2, .ref 0 0), (5, .pv (.int .i64 many23)), (7, .ref 1 0), (26, .pv (.int .i64 (n1.mounts_.length : Int))), (27, .pv (.int .i64 i15)), (37, .pv (.int .i64 (u20.to_.length : Int))), (38, .pv (.int .i64 i24)), (39, .pv (.bool (decide (i24 < (u20.to_.length : Int)))))] [.var [.pv (.int .i64 n1.id_), .pv (.int .i64 n1.root_.dev_), .pv (.int .i64 n1.root_.id_), .pv (.int .i64 n1.root_.fid_), .pv (.str n1.root_.path_), .pv (.str n1.root_.name_), .pv (.slice (List.map Mount.pv n1.mounts_))], .var [.pv (.int .i64 u20.from_.dev_), .pv (.int .i64 u20.from_.id_), .pv (.int .i64 u20.from_.fid_), .pv (.str u20.from_.path_), .pv (.str u20.from_.name_), .pv (.slice (List.map Target.pv u20.to_))]] ?_ ?_
      · simp -implicitDefEqProofs only [RUNS, qindex, Nat.reduceAdd, Nat.reduceLeDiff, Nat.reduceSub, reduceIte, Nat.reduceEqDiff, Nat.reduceLT, reduceCtorEq, Nat.reduceMul, if_true, if_false, eq_self, ne_eq, env_bT, T_3, NsOp.pv_eq, Word.pv_eq, Chan.pv_eq, Target.pv_eq, P38_eq, Mount.pv_eq, P31_eq, Ns.pv_eq, eqT_3]
      refine AW.seq ?_
      refine AW.cond (b := decide (i24 < (u20.to_.length : Int))) rfl (fun hb28 => ?_) (fun hb28 => ?_)
      · replace h := bif_t hb28 h
        refine AW.skip ?_
        refine AW.seq ?_
        refine AW.block ?_
        refine AW.seq ?_
        refine AW.reg hS [(1, .pv (.str cwd2)), (2, .ref 0 0), (5, .pv (.int .i64 many23)), (7, .ref 1 0), (8, .pv (.int .i64 i24)), (26, .pv (.int .i64 (n1.mounts_.length : Int))), (27, .pv (.int .i64 i15)), (37, .pv (.int .i64 (u20.to_.length : Int))), (38, .pv (.int .i64 i24))] [.var [.pv (.int .i64 n1.id_), .pv (.int .i64 n1.root_.dev_), .pv (.int .i64 n1.root_.id_), .pv (.int .i64 n1.root_.fid_), .pv (.str n1.root_.path_), .pv (.str n1.root_.name_), .pv (.slice (List.map Mount.pv n1.mounts_))], .var [.pv (.int .i64 u20.from_.dev_), .pv (.int .i64 u20.from_.id_), .pv (.int .i64 u20.from_.fid_), .pv (.str u20.from_.path_), .pv (.str u20.from_.name_), .pv (.slice (List.map Target.pv u20.to_))]] ?_ ?_
        · simp -implicitDefEqProofs only [RUNS, qindex, Nat.reduceAdd, Nat.reduceLeDiff, Nat.reduceSub, reduceIte, Nat.reduceEqDiff, Nat.reduceLT, reduceCtorEq, Nat.reduceMul, if_true, if_false, eq_self, ne_eq, env_bT, NsOp.pv_eq, Word.pv_eq, Chan.pv_eq, Target.pv_eq, P38_eq, Mount.pv_eq, P31_eq, Ns.pv_eq]
        refine AW.seq ?_
        replace h := Option.bind_eq_some_iff.1 h; obtain ⟨u29, q30, h⟩ := h
        have f31 := lidx_f q30
        refine AW.reg hS [(1, .pv (.str cwd2)), (2, .ref 0 0), (5, .pv (.int .i64 many23)), (7, .ref 1 0), (8, .pv (.int .i64 i24)), (9, .ref 2 0), (26, .pv (.int .i64 (n1.mounts_.length : Int))), (27, .pv (.int .i64 i15)), (37, .pv (.int .i64 (u20.to_.length : Int))), (38, .pv (.int .i64 i24))] [.var [.pv (.int .i64 n1.id_), .pv (.int .i64 n1.root_.dev_), .pv (.int .i64 n1.root_.id_), .pv (.int .i64 n1.root_.fid_), .pv (.str n1.root_.path_), .pv (.str n1.root_.name_), .pv (.slice (List.map Mount.pv n1.mounts_))], .var [.pv (.int .i64 u20.from_.dev_), .pv (.int .i64 u20.from_.id_), .pv (.int .i64 u20.from_.fid_), .pv (.str u20.from_.path_), .pv (.str u20.from_.name_), .pv (.slice (List.map Target.pv u20.to_))], .var [.pv (.int .i64 u29.chan_.dev_), .pv (.int .i64 u29.chan_.id_), .pv (.int .i64 u29.chan_.fid_), .pv (.str u29.chan_.path_), .pv (.str u29.chan_.name_)]] ?_ ?_
        · simp -implicitDefEqProofs only [RUNS, qindex, Nat.reduceAdd, Nat.reduceLeDiff, Nat.reduceSub, reduceIte, Nat.reduceEqDiff, Nat.reduceLT, reduceCtorEq, Nat.reduceMul, if_true, if_false, eq_self, ne_eq, env_bT, T_30, T_38, T_40, T_42, NsOp.pv_eq, Word.pv_eq, Chan.pv_eq, Target.pv_eq, P38_eq, Mount.pv_eq, P31_eq, Ns.pv_eq, f31.1, f31.2.1]
        refine AW.seq ?_
        refine AW.seq ?_
        replace h := Option.bind_eq_some_iff.1 h; obtain ⟨r32, q33, h⟩ := h
        have f34 := c_F15 u29.chan_.name_ r32 q33
        try dsimp only at f34
        replace h := Option.bind_eq_some_iff.1 h; obtain ⟨r35, q36, h⟩ := h
        have f37 := fun hg => c_F15 u20.from_.name_ r35 (guardO_t q36 hg)
        try dsimp only at f37
        refine AW.reg hS [(1, .pv (.str cwd2)), (2, .ref 0 0), (5, .pv (.int .i64 many23)), (7, .ref 1 0), (8, .pv (.int .i64 i24)), (9, .ref 2 0), (26, .pv (.int .i64 (n1.mounts_.length : Int))), (27, .pv (.int .i64 i15)), (37, .pv (.int .i64 (u20.to_.length : Int))), (38, .pv (.int .i64 i24)), (57, .pv (.bool (!r32 || !r35)))] [.var [.pv (.int .i64 n1.id_), .pv (.int .i64 n1.root_.dev_), .pv (.int .i64 n1.root_.id_), .pv (.int .i64 n1.root_.fid_), .pv (.str n1.root_.path_), .pv (.str n1.root_.name_), .pv (.slice (List.map Mount.pv n1.mounts_))], .var [.pv (.int .i64 u20.from_.dev_), .pv (.int .i64 u20.from_.id_), .pv (.int .i64 u20.from_.fid_), .pv (.str u20.from_.path_), .pv (.str u20.from_.name_), .pv (.slice (List.map Target.pv u20.to_))], .var [.pv (.int .i64 u29.chan_.dev_), .pv (.int .i64 u29.chan_.id_), .pv (.int .i64 u29.chan_.fid_), .pv (.str u29.chan_.path_), .pv (.str u29.chan_.name_)]] ?_ ?_
        · clear h
          (simp -implicitDefEqProofs only [RUNS, qindex, Nat.reduceAdd, Nat.reduceLeDiff, Nat.reduceSub, reduceIte, Nat.reduceEqDiff, Nat.reduceLT, reduceCtorEq, Nat.reduceMul, if_true, if_false, eq_self, ne_eq, env_bT, T_9, T_30, T_40, NsOp.pv_eq, Word.pv_eq, Chan.pv_eq, Target.pv_eq, P38_eq, Mount.pv_eq, P31_eq, Ns.pv_eq, pf_15, f34, f37]); repeat' (split <;> rename_i hb <;> (try simp only [HBS, ge_iff_le, gt_iff_lt] at hb) <;> simp -implicitDefEqProofs only [RUNS, qindex, Nat.reduceAdd, Nat.reduceLeDiff, Nat.reduceSub, reduceIte, Nat.reduceEqDiff, Nat.reduceLT, reduceCtorEq, Nat.reduceMul, if_true, if_false, eq_self, ne_eq, env_bT, T_9, T_30, T_40, NsOp.pv_eq, Word.pv_eq, Chan.pv_eq, Target.pv_eq, P38_eq, Mount.pv_eq, P31_eq, Ns.pv_eq, pf_15, f34, f37, *, decide_true, decide_false, Decidable.not_not, not_false_eq_true, not_true_eq_false])
          all_goals (first | (simp only [BOOLS]; done) | (simp [*]; done) | ((try simp only [CLOS, beq_iff_eq, bne_iff_ne, ne_eq] at *) <;> omega) | (simp_all; done) | (simp_all <;> omega))
        refine AW.cond (b := (!r32 || !r35)) rfl (fun hb38 => ?_) (fun hb38 => ?_)
        · replace h := bif_t hb38 h
          refine AW.seq ?_
          replace h := Option.bind_eq_some_iff.1 h; obtain ⟨r39, q40, h⟩ := h
          have f41 := c_F9 r39 q40
          try dsimp only at f41
          refine AW.reg hS [(4, .pv (.bool r39))] [.var [.pv (.int .i64 n1.id_), .pv (.int .i64 n1.root_.dev_), .pv (.int .i64 n1.root_.id_), .pv (.int .i64 n1.root_.fid_), .pv (.str n1.root_.path_), .pv (.str n1.root_.name_), .pv (.slice (List.map Mount.pv n1.mounts_))], .var [.pv (.int .i64 u20.from_.dev_), .pv (.int .i64 u20.from_.id_), .pv (.int .i64 u20.from_.fid_), .pv (.str u20.from_.path_), .pv (.str u20.from_.name_), .pv (.slice (List.map Target.pv u20.to_))], .var [.pv (.int .i64 u29.chan_.dev_), .pv (.int .i64 u29.chan_.id_), .pv (.int .i64 u29.chan_.fid_), .pv (.str u29.chan_.path_), .pv (.str u29.chan_.name_)]] ?_ ?_
          · simp -implicitDefEqProofs only [RUNS, qindex, Nat.reduceAdd, Nat.reduceLeDiff, Nat.reduceSub, reduceIte, Nat.reduceEqDiff, Nat.reduceLT, reduceCtorEq, Nat.reduceMul, if_true, if_false, eq_self, ne_eq, env_bT, NsOp.pv_eq, Word.pv_eq, Chan.pv_eq, Target.pv_eq, P38_eq, Mount.pv_eq, P31_eq, Ns.pv_eq, pf_9, f41]
          refine AW.ret ?_
          cases h
          show finish _ _ _ _ _ = _
          first | rfl | (simp [finish, resOf, renArgs, toPV, selObjs, sl])
        · replace h := bif_f hb38 h
          refine AW.skip ?_
          refine AW.seq ?_
          refine AW.reg hS [(1, .pv (.str cwd2)), (2, .ref 0 0), (5, .pv (.int .i64 many23)), (7, .ref 1 0), (26, .pv (.int .i64 (n1.mounts_.length : Int))), (27, .pv (.int .i64 i15)), (37, .pv (.int .i64 (u20.to_.length : Int))), (38, .pv (.int .i64 i24)), (84, .pv (.bool (((decide (0 < i24) || u29.create_) || !decide (u29.chan_.dev_ = u20.from_.dev_)) || !decide (u29.chan_.id_ = u20.from_.id_))))] [.var [.pv (.int .i64 n1.id_), .pv (.int .i64 n1.root_.dev_), .pv (.int .i64 n1.root_.id_), .pv (.int .i64 n1.root_.fid_), .pv (.str n1.root_.path_), .pv (.str n1.root_.name_), .pv (.slice (List.map Mount.pv n1.mounts_))], .var [.pv (.int .i64 u20.from_.dev_), .pv (.int .i64 u20.from_.id_), .pv (.int .i64 u20.from_.fid_), .pv (.str u20.from_.path_), .pv (.str u20.from_.name_), .pv (.slice (List.map Target.pv u20.to_))], .var [.pv (.int .i64 u29.chan_.dev_), .pv (.int .i64 u29.chan_.id_), .pv (.int .i64 u29.chan_.fid_), .pv (.str u29.chan_.path_), .pv (.str u29.chan_.name_)]] ?_ ?_
          · clear h
            (simp -implicitDefEqProofs only [RUNS, qindex, Nat.reduceAdd, Nat.reduceLeDiff, Nat.reduceSub, reduceIte, Nat.reduceEqDiff, Nat.reduceLT, reduceCtorEq, Nat.reduceMul, if_true, if_false, eq_self, ne_eq, env_bT, T_3, T_4, T_30, T_38, T_40, T_42, NsOp.pv_eq, Word.pv_eq, Chan.pv_eq, Target.pv_eq, P38_eq, Mount.pv_eq, P31_eq, Ns.pv_eq, eqT_3, f31.1, f31.2.1]); repeat' (split <;> rename_i hb <;> (try simp only [HBS, ge_iff_le, gt_iff_lt] at hb) <;> simp -implicitDefEqProofs only [RUNS, qindex, Nat.reduceAdd, Nat.reduceLeDiff, Nat.reduceSub, reduceIte, Nat.reduceEqDiff, Nat.reduceLT, reduceCtorEq, Nat.reduceMul, if_true, if_false, eq_self, ne_eq, env_bT, T_3, T_4, T_30, T_38, T_40, T_42, NsOp.pv_eq, Word.pv_eq, Chan.pv_eq, Target.pv_eq, P38_eq, Mount.pv_eq, P31_eq, Ns.pv_eq, eqT_3, f31.1, f31.2.1, *, decide_true, decide_false, Decidable.not_not, not_false_eq_true, not_true_eq_false])
            all_goals (first | (simp only [BOOLS]; done) | (simp [*]; done) | ((try simp only [CLOS, beq_iff_eq, bne_iff_ne, ne_eq] at *) <;> omega) | (simp_all; done) | (simp_all <;> omega))
          refine AW.cond (b := (((decide (0 < i24) || u29.create_) || !decide (u29.chan_.dev_ = u20.from_.dev_)) || !decide (u29.chan_.id_ = u20.from_.id_))) rfl (fun hb42 => ?_) (fun hb42 => ?_)
          · replace h := bif_t hb42 h
            refine AW.reg hS [(1, .pv (.str cwd2)), (2, .ref 0 0), (5, .pv (.int .i64 (IntKind.wrap .i64 (many23 + 1)))), (7, .ref 1 0), (26, .pv (.int .i64 (n1.mounts_.length : Int))), (27, .pv (.int .i64 i15)), (37, .pv (.int .i64 (u20.to_.length : Int))), (38, .pv (.int .i64 i24))] [.var [.pv (.int .i64 n1.id_), .pv (.int .i64 n1.root_.dev_), .pv (.int .i64 n1.root_.id_), .pv (.int .i64 n1.root_.fid_), .pv (.str n1.root_.path_), .pv (.str n1.root_.name_), .pv (.slice (List.map Mount.pv n1.mounts_))], .var [.pv (.int .i64 u20.from_.dev_), .pv (.int .i64 u20.from_.id_), .pv (.int .i64 u20.from_.fid_), .pv (.str u20.from_.path_), .pv (.str u20.from_.name_), .pv (.slice (List.map Target.pv u20.to_))], .var [.pv (.int .i64 u29.chan_.dev_), .pv (.int .i64 u29.chan_.id_), .pv (.int .i64 u29.chan_.fid_), .pv (.str u29.chan_.path_), .pv (.str u29.chan_.name_)]] ?_ ?_
            · simp -implicitDefEqProofs only [RUNS, qindex, Nat.reduceAdd, Nat.reduceLeDiff, Nat.reduceSub, reduceIte, Nat.reduceEqDiff, Nat.reduceLT, reduceCtorEq, Nat.reduceMul, if_true, if_false, eq_self, ne_eq, env_bT, T_3, NsOp.pv_eq, Word.pv_eq, Chan.pv_eq, Target.pv_eq, P38_eq, Mount.pv_eq, P31_eq, Ns.pv_eq, eqT_3]
            refine AW.reg hS [(1, .pv (.str cwd2)), (2, .ref 0 0), (5, .pv (.int .i64 (IntKind.wrap .i64 (many23 + 1)))), (7, .ref 1 0), (26, .pv (.int .i64 (n1.mounts_.length : Int))), (27, .pv (.int .i64 i15)), (37, .pv (.int .i64 (u20.to_.length : Int))), (38, .pv (.int .i64 (IntKind.wrap .i64 (i24 + 1))))] [.var [.pv (.int .i64 n1.id_), .pv (.int .i64 n1.root_.dev_), .pv (.int .i64 n1.root_.id_), .pv (.int .i64 n1.root_.fid_), .pv (.str n1.root_.path_), .pv (.str n1.root_.name_), .pv (.slice (List.map Mount.pv n1.mounts_))], .var [.pv (.int .i64 u20.from_.dev_), .pv (.int .i64 u20.from_.id_), .pv (.int .i64 u20.from_.fid_), .pv (.str u20.from_.path_), .pv (.str u20.from_.name_), .pv (.slice (List.map Target.pv u20.to_))], .var [.pv (.int .i64 u29.chan_.dev_), .pv (.int .i64 u29.chan_.id_), .pv (.int .i64 u29.chan_.fid_), .pv (.str u29.chan_.path_), .pv (.str u29.chan_.name_)]] ?_ ?_
            · simp -implicitDefEqProofs only [RUNS, qindex, Nat.reduceAdd, Nat.reduceLeDiff, Nat.reduceSub, reduceIte, Nat.reduceEqDiff, Nat.reduceLT, reduceCtorEq, Nat.reduceMul, if_true, if_false, eq_self, ne_eq, env_bT, T_3, NsOp.pv_eq, Word.pv_eq, Chan.pv_eq, Target.pv_eq, P38_eq, Mount.pv_eq, P31_eq, Ns.pv_eq, eqT_3]
            exact ⟨(m27, (IntKind.wrap .i64 (many23 + 1), IntKind.wrap .i64 (i24 + 1))), h, (Weak.norm (m := 2) (Nat.le_of_ble_eq_true rfl) ⟨rfl, rfl, rfl, rfl, rfl, rfl, rfl, rfl, trivial⟩ rfl rfl rfl), Nat.lt_succ_self _⟩
          · replace h := bif_f hb42 h
            refine AW.skip ?_
            refine AW.reg hS [(1, .pv (.str cwd2)), (2, .ref 0 0), (5, .pv (.int .i64 many23)), (7, .ref 1 0), (26, .pv (.int .i64 (n1.mounts_.length : Int))), (27, .pv (.int .i64 i15)), (37, .pv (.int .i64 (u20.to_.length : Int))), (38, .pv (.int .i64 (IntKind.wrap .i64 (i24 + 1))))] [.var [.pv (.int .i64 n1.id_), .pv (.int .i64 n1.root_.dev_), .pv (.int .i64 n1.root_.id_), .pv (.int .i64 n1.root_.fid_), .pv (.str n1.root_.path_), .pv (.str n1.root_.name_), .pv (.slice (List.map Mount.pv n1.mounts_))], .var [.pv (.int .i64 u20.from_.dev_), .pv (.int .i64 u20.from_.id_), .pv (.int .i64 u20.from_.fid_), .pv (.str u20.from_.path_), .pv (.str u20.from_.name_), .pv (.slice (List.map Target.pv u20.to_))], .var [.pv (.int .i64 u29.chan_.dev_), .pv (.int .i64 u29.chan_.id_), .pv (.int .i64 u29.chan_.fid_), .pv (.str u29.chan_.path_), .pv (.str u29.chan_.name_)]] ?_ ?_
            · simp -implicitDefEqProofs only [RUNS, qindex, Nat.reduceAdd, Nat.reduceLeDiff, Nat.reduceSub, reduceIte, Nat.reduceEqDiff, Nat.reduceLT, reduceCtorEq, Nat.reduceMul, if_true, if_false, eq_self, ne_eq, env_bT, T_3, NsOp.pv_eq, Word.pv_eq, Chan.pv_eq, Target.pv_eq, P38_eq, Mount.pv_eq, P31_eq, Ns.pv_eq, eqT_3]
            exact ⟨(m27, (many23, IntKind.wrap .i64 (i24 + 1))), h, (Weak.norm (m := 2) (Nat.le_of_ble_eq_true rfl) ⟨rfl, rfl, rfl, rfl, rfl, rfl, rfl, rfl, trivial⟩ rfl rfl rfl), Nat.lt_succ_self _⟩
      · replace h := bif_f hb28 h
        refine AW.exit ?_
        refine AW.reg hS [(1, .pv (.str cwd2)), (2, .ref 0 0), (5, .pv (.int .i64 many23)), (26, .pv (.int .i64 (n1.mounts_.length : Int))), (27, .pv (.int .i64 (IntKind.wrap .i64 (i15 + 1))))] [.var [.pv (.int .i64 n1.id_), .pv (.int .i64 n1.root_.dev_), .pv (.int .i64 n1.root_.id_), .pv (.int .i64 n1.root_.fid_), .pv (.str n1.root_.path_), .pv (.str n1.root_.name_), .pv (.slice (List.map Mount.pv n1.mounts_))], .var [.pv (.int .i64 u20.from_.dev_), .pv (.int .i64 u20.from_.id_), .pv (.int .i64 u20.from_.fid_), .pv (.str u20.from_.path_), .pv (.str u20.from_.name_), .pv (.slice (List.map Target.pv u20.to_))]] ?_ ?_
        · simp -implicitDefEqProofs only [RUNS, qindex, Nat.reduceAdd, Nat.reduceLeDiff, Nat.reduceSub, reduceIte, Nat.reduceEqDiff, Nat.reduceLT, reduceCtorEq, Nat.reduceMul, if_true, if_false, eq_self, ne_eq, env_bT, T_3, NsOp.pv_eq, Word.pv_eq, Chan.pv_eq, Target.pv_eq, P38_eq, Mount.pv_eq, P31_eq, Ns.pv_eq, eqT_3]
        exact ⟨(m18, (many23, IntKind.wrap .i64 (i15 + 1))), h, (Weak.norm (m := 1) (Nat.le_of_ble_eq_true rfl) ⟨rfl, rfl, rfl, rfl, rfl, trivial⟩ rfl rfl rfl), Nat.lt_succ_self _⟩
    · replace h := bif_f hb19 h
      refine AW.exit ?_
      refine AW.seq ?_
      replace h := Option.bind_eq_some_iff.1 h; obtain ⟨r44, q45, h⟩ := h
      have f46 := c_F13 n1 cwd2 r44 q45
      try dsimp only at f46
      refine AW.reg hS [(1, .pv (.str cwd2)), (5, .pv (.int .i64 many14)), (10, .pv (.str r44))] [.var [.pv (.int .i64 n1.id_), .pv (.int .i64 n1.root_.dev_), .pv (.int .i64 n1.root_.id_), .pv (.int .i64 n1.root_.fid_), .pv (.str n1.root_.path_), .pv (.str n1.root_.name_), .pv (.slice (List.map Mount.pv n1.mounts_))]] ?_ ?_
      · simp -implicitDefEqProofs only [RUNS, qindex, Nat.reduceAdd, Nat.reduceLeDiff, Nat.reduceSub, reduceIte, Nat.reduceEqDiff, Nat.reduceLT, reduceCtorEq, Nat.reduceMul, if_true, if_false, eq_self, ne_eq, env_bT, T_9, T_33, NsOp.pv_eq, Word.pv_eq, Chan.pv_eq, Target.pv_eq, P38_eq, Mount.pv_eq, P31_eq, Ns.pv_eq, pf_13, f46]
      refine AW.seq ?_
      refine AW.seq ?_
      refine AW.reg hS [(1, .pv (.str cwd2)), (5, .pv (.int .i64 many14)), (10, .pv (.str r44)), (94, .pv (.bool (decide (65536 < (r44.length : Int)))))] [.var [.pv (.int .i64 n1.id_), .pv (.int .i64 n1.root_.dev_), .pv (.int .i64 n1.root_.id_), .pv (.int .i64 n1.root_.fid_), .pv (.str n1.root_.path_), .pv (.str n1.root_.name_), .pv (.slice (List.map Mount.pv n1.mounts_))]] ?_ ?_
      · simp -implicitDefEqProofs only [RUNS, qindex, Nat.reduceAdd, Nat.reduceLeDiff, Nat.reduceSub, reduceIte, Nat.reduceEqDiff, Nat.reduceLT, reduceCtorEq, Nat.reduceMul, if_true, if_false, eq_self, ne_eq, env_bT, T_3, T_9, NsOp.pv_eq, Word.pv_eq, Chan.pv_eq, Target.pv_eq, P38_eq, Mount.pv_eq, P31_eq, Ns.pv_eq, eqT_3]
      refine AW.cond (b := decide (65536 < (r44.length : Int))) rfl (fun hb47 => ?_) (fun hb47 => ?_)
      · replace h := bif_t hb47 h
        refine AW.seq ?_
        replace h := Option.bind_eq_some_iff.1 h; obtain ⟨r48, q49, h⟩ := h
        have f50 := c_F9 r48 q49
        try dsimp only at f50
        refine AW.reg hS [(4, .pv (.bool r48))] [.var [.pv (.int .i64 n1.id_), .pv (.int .i64 n1.root_.dev_), .pv (.int .i64 n1.root_.id_), .pv (.int .i64 n1.root_.fid_), .pv (.str n1.root_.path_), .pv (.str n1.root_.name_), .pv (.slice (List.map Mount.pv n1.mounts_))]] ?_ ?_
        · simp -implicitDefEqProofs only [RUNS, qindex, Nat.reduceAdd, Nat.reduceLeDiff, Nat.reduceSub, reduceIte, Nat.reduceEqDiff, Nat.reduceLT, reduceCtorEq, Nat.reduceMul, if_true, if_false, eq_self, ne_eq, env_bT, NsOp.pv_eq, Word.pv_eq, Chan.pv_eq, Target.pv_eq, P38_eq, Mount.pv_eq, P31_eq, Ns.pv_eq, pf_9, f50]
        refine AW.ret ?_
        cases h
        show finish _ _ _ _ _ = _
        first | rfl | (simp [finish, resOf, renArgs, toPV, selObjs, sl])
      · replace h := bif_f hb47 h
        refine AW.skip ?_
        refine AW.seq ?_
        replace h := Option.bind_eq_some_iff.1 h; obtain ⟨⟨r51, r52, r53⟩, q54, h⟩ := h
        dsimp only at h
        have f55 := c_F16 r44 r51 r52 r53 q54
        try dsimp only at f55
        refine AW.reg hS [(1, .pv (.str cwd2)), (5, .pv (.int .i64 many14)), (11, .pv (.slice (List.map NsOp.pv r51))), (13, .pv (.int .i64 r53))] [.var [.pv (.int .i64 n1.id_), .pv (.int .i64 n1.root_.dev_), .pv (.int .i64 n1.root_.id_), .pv (.int .i64 n1.root_.fid_), .pv (.str n1.root_.path_), .pv (.str n1.root_.name_), .pv (.slice (List.map Mount.pv n1.mounts_))]] ?_ ?_
        · simp -implicitDefEqProofs only [RUNS, qindex, Nat.reduceAdd, Nat.reduceLeDiff, Nat.reduceSub, reduceIte, Nat.reduceEqDiff, Nat.reduceLT, reduceCtorEq, Nat.reduceMul, if_true, if_false, eq_self, ne_eq, env_bT, T_9, NsOp.pv_eq, Word.pv_eq, Chan.pv_eq, Target.pv_eq, P38_eq, Mount.pv_eq, P31_eq, Ns.pv_eq, pf_16, f55]
        refine AW.seq ?_
        refine AW.seq ?_
        refine AW.reg hS [(1, .pv (.str cwd2)), (5, .pv (.int .i64 many14)), (11, .pv (.slice (List.map NsOp.pv r51))), (109, .pv (.bool (!decide (r53 = 0) || !decide ((r51.length : Int) = many14))))] [.var [.pv (.int .i64 n1.id_), .pv (.int .i64 n1.root_.dev_), .pv (.int .i64 n1.root_.id_), .pv (.int .i64 n1.root_.fid_), .pv (.str n1.root_.path_), .pv (.str n1.root_.name_), .pv (.slice (List.map Mount.pv n1.mounts_))]] ?_ ?_
        · clear h
          (simp -implicitDefEqProofs only [RUNS, qindex, Nat.reduceAdd, Nat.reduceLeDiff, Nat.reduceSub, reduceIte, Nat.reduceEqDiff, Nat.reduceLT, reduceCtorEq, Nat.reduceMul, if_true, if_false, eq_self, ne_eq, env_bT, T_3, T_23, T_26, T_43, NsOp.pv_eq, Word.pv_eq, Chan.pv_eq, Target.pv_eq, P38_eq, Mount.pv_eq, P31_eq, Ns.pv_eq, eqT_26, eqT_3]); repeat' (split <;> rename_i hb <;> (try simp only [HBS, ge_iff_le, gt_iff_lt] at hb) <;> simp -implicitDefEqProofs only [RUNS, qindex, Nat.reduceAdd, Nat.reduceLeDiff, Nat.reduceSub, reduceIte, Nat.reduceEqDiff, Nat.reduceLT, reduceCtorEq, Nat.reduceMul, if_true, if_false, eq_self, ne_eq, env_bT, T_3, T_23, T_26, T_43, NsOp.pv_eq, Word.pv_eq, Chan.pv_eq, Target.pv_eq, P38_eq, Mount.pv_eq, P31_eq, Ns.pv_eq, eqT_26, eqT_3, *, decide_true, decide_false, Decidable.not_not, not_false_eq_true, not_true_eq_false])
          all_goals (first | (simp only [BOOLS]; done) | (simp [*]; done) | ((try simp only [CLOS, beq_iff_eq, bne_iff_ne, ne_eq] at *) <;> omega) | (simp_all; done) | (simp_all <;> omega))
        refine AW.cond (b := (!decide (r53 = 0) || !decide ((r51.length : Int) = many14))) rfl (fun hb56 => ?_) (fun hb56 => ?_)
        · replace h := bif_t hb56 h
          refine AW.seq ?_
          refine AW.reg hS [(4, .pv (.bool false))] [.var [.pv (.int .i64 n1.id_), .pv (.int .i64 n1.root_.dev_), .pv (.int .i64 n1.root_.id_), .pv (.int .i64 n1.root_.fid_), .pv (.str n1.root_.path_), .pv (.str n1.root_.name_), .pv (.slice (List.map Mount.pv n1.mounts_))]] ?_ ?_
          · simp -implicitDefEqProofs only [RUNS, qindex, Nat.reduceAdd, Nat.reduceLeDiff, Nat.reduceSub, reduceIte, Nat.reduceEqDiff, Nat.reduceLT, reduceCtorEq, Nat.reduceMul, if_true, if_false, eq_self, ne_eq, env_bT, NsOp.pv_eq, Word.pv_eq, Chan.pv_eq, Target.pv_eq, P38_eq, Mount.pv_eq, P31_eq, Ns.pv_eq]
          refine AW.ret ?_
          cases h
          show finish _ _ _ _ _ = _
          first | rfl | (simp [finish, resOf, renArgs, toPV, selObjs, sl])
        · replace h := bif_f hb56 h
          refine AW.skip ?_
          refine AW.seq ?_
          refine AW.seq ?_
          replace h := Option.bind_eq_some_iff.1 h; obtain ⟨l57, q58, h⟩ := h
          have f59 := lslice_f q58
          have f59l := f59.2.2.1
          try simp only [Int.toNat_natCast, Int.toNat_zero] at f59l
          refine AW.reg hS [(1, .pv (.str cwd2)), (5, .pv (.int .i64 many14)), (11, .pv (.slice (List.map NsOp.pv r51))), (112, .pv (.int .i64 (l57.length : Int))), (113, .pv (.int .i64 0))] [.var [.pv (.int .i64 n1.id_), .pv (.int .i64 n1.root_.dev_), .pv (.int .i64 n1.root_.id_), .pv (.int .i64 n1.root_.fid_), .pv (.str n1.root_.path_), .pv (.str n1.root_.name_), .pv (.slice (List.map Mount.pv n1.mounts_))]] ?_ ?_
          · simp -implicitDefEqProofs only [RUNS, qindex, Nat.reduceAdd, Nat.reduceLeDiff, Nat.reduceSub, reduceIte, Nat.reduceEqDiff, Nat.reduceLT, reduceCtorEq, Nat.reduceMul, if_true, if_false, eq_self, ne_eq, env_bT, T_23, T_43, NsOp.pv_eq, Word.pv_eq, Chan.pv_eq, Target.pv_eq, P38_eq, Mount.pv_eq, P31_eq, Ns.pv_eq, f59.1, f59.2.1, f59l, f59.2.2.2.1, f59.2.2.2.2, List.map_take, List.map_drop, List.length_map, Int.toNat_natCast, Int.toNat_zero, NsOp.all] <;> simp only [List.length_take, List.length_drop, List.length_map]
          clear f59 f59l
          refine AW.block ?_
          refine AW.weak (Weak.slots (L := [(1, .pv (.str cwd2)), (5, .pv (.int .i64 many14)), (11, .pv (.slice (List.map NsOp.pv r51))), (112, .pv (.int .i64 (l57.length : Int))), (113, .pv (.int .i64 0))]) ⟨rfl, rfl, rfl, rfl, rfl, trivial⟩) ?_
          refine AW.loopI (α := Nat × Int) (fun (_, i60) => ⟨sl [(1, .pv (.str cwd2)), (5, .pv (.int .i64 many14)), (11, .pv (.slice (List.map NsOp.pv r51))), (112, .pv (.int .i64 (l57.length : Int))), (113, .pv (.int .i64 i60))], 134, [.var [.pv (.int .i64 n1.id_), .pv (.int .i64 n1.root_.dev_), .pv (.int .i64 n1.root_.id_), .pv (.int .i64 n1.root_.fid_), .pv (.str n1.root_.path_), .pv (.str n1.root_.name_), .pv (.slice (List.map Mount.pv n1.mounts_))]]⟩) (fun x => iter (F5_b4 l57 r51 many14 cwd2) x.1 x.2 = some r3) (fun x => x.1) (BIG, 0) h ?_
          clear h
          intro ⟨n75, i60⟩ h
          replace h := iter_some h; obtain ⟨m63, rfl, h⟩ := h
          rw [F5_b4] at h
          try dsimp only at h
          show AW _ _ _ _ ⟨sl [(1, .pv (.str cwd2)), (5, .pv (.int .i64 many14)), (11, .pv (.slice (List.map NsOp.pv r51))), (112, .pv (.int .i64 (l57.length : Int))), (113, .pv (.int .i64 i60))], 134, [.var [.pv (.int .i64 n1.id_), .pv (.int .i64 n1.root_.dev_), .pv (.int .i64 n1.root_.id_), .pv (.int .i64 n1.root_.fid_), .pv (.str n1.root_.path_), .pv (.str n1.root_.name_), .pv (.slice (List.map Mount.pv n1.mounts_))]]⟩
          refine AW.seq ?_
          refine AW.reg hS [(1, .pv (.str cwd2)), (5, .pv (.int .i64 many14)), (11, .pv (.slice (List.map NsOp.pv r51))), (112, .pv (.int .i64 (l57.length : Int))), (113, .pv (.int .i64 i60)), (114, .pv (.bool (decide (i60 < (l57.length : Int)))))] [.var [.pv (.int .i64 n1.id_), .pv (.int .i64 n1.root_.dev_), .pv (.int .i64 n1.root_.id_), .pv (.int .i64 n1.root_.fid_), .pv (.str n1.root_.path_), .pv (.str n1.root_.name_), .pv (.slice (List.map Mount.pv n1.mounts_))]] ?_ ?_
          · simp -implicitDefEqProofs only [RUNS, qindex, Nat.reduceAdd, Nat.reduceLeDiff, Nat.reduceSub, reduceIte, Nat.reduceEqDiff, Nat.reduceLT, reduceCtorEq, Nat.reduceMul, if_true, if_false, eq_self, ne_eq, env_bT, T_3, NsOp.pv_eq, Word.pv_eq, Chan.pv_eq, Target.pv_eq, P38_eq, Mount.pv_eq, P31_eq, Ns.pv_eq, eqT_3]
          refine AW.seq ?_
          refine AW.cond (b := decide (i60 < (l57.length : Int))) rfl (fun hb64 => ?_) (fun hb64 => ?_)
          · replace h := bif_t hb64 h
            refine AW.skip ?_
            refine AW.seq ?_
            refine AW.block ?_
            refine AW.seq ?_
            refine AW.reg hS [(1, .pv (.str cwd2)), (5, .pv (.int .i64 many14)), (11, .pv (.slice (List.map NsOp.pv r51))), (14, .pv (.int .i64 i60)), (112, .pv (.int .i64 (l57.length : Int))), (113, .pv (.int .i64 i60))] [.var [.pv (.int .i64 n1.id_), .pv (.int .i64 n1.root_.dev_), .pv (.int .i64 n1.root_.id_), .pv (.int .i64 n1.root_.fid_), .pv (.str n1.root_.path_), .pv (.str n1.root_.name_), .pv (.slice (List.map Mount.pv n1.mounts_))]] ?_ ?_
            · simp -implicitDefEqProofs only [RUNS, qindex, Nat.reduceAdd, Nat.reduceLeDiff, Nat.reduceSub, reduceIte, Nat.reduceEqDiff, Nat.reduceLT, reduceCtorEq, Nat.reduceMul, if_true, if_false, eq_self, ne_eq, env_bT, NsOp.pv_eq, Word.pv_eq, Chan.pv_eq, Target.pv_eq, P38_eq, Mount.pv_eq, P31_eq, Ns.pv_eq]
            refine AW.seq ?_
            replace h := Option.bind_eq_some_iff.1 h; obtain ⟨u65, q66, h⟩ := h
            have f67 := lidx_f q66
            refine AW.reg hS [(1, .pv (.str cwd2)), (5, .pv (.int .i64 many14)), (11, .pv (.slice (List.map NsOp.pv r51))), (112, .pv (.int .i64 (l57.length : Int))), (113, .pv (.int .i64 i60)), (121, .pv (.bool (!decide (u65.kind_ = 1))))] [.var [.pv (.int .i64 n1.id_), .pv (.int .i64 n1.root_.dev_), .pv (.int .i64 n1.root_.id_), .pv (.int .i64 n1.root_.fid_), .pv (.str n1.root_.path_), .pv (.str n1.root_.name_), .pv (.slice (List.map Mount.pv n1.mounts_))]] ?_ ?_
            · simp -implicitDefEqProofs only [RUNS, qindex, Nat.reduceAdd, Nat.reduceLeDiff, Nat.reduceSub, reduceIte, Nat.reduceEqDiff, Nat.reduceLT, reduceCtorEq, Nat.reduceMul, if_true, if_false, eq_self, ne_eq, env_bT, T_3, T_23, T_43, NsOp.pv_eq, Word.pv_eq, Chan.pv_eq, Target.pv_eq, P38_eq, Mount.pv_eq, P31_eq, Ns.pv_eq, f67.1, f67.2.1, eqT_3]
            refine AW.cond (b := !decide (u65.kind_ = 1)) rfl (fun hb68 => ?_) (fun hb68 => ?_)
            · replace h := bif_t hb68 h
              refine AW.seq ?_
              refine AW.reg hS [(4, .pv (.bool false))] [.var [.pv (.int .i64 n1.id_), .pv (.int .i64 n1.root_.dev_), .pv (.int .i64 n1.root_.id_), .pv (.int .i64 n1.root_.fid_), .pv (.str n1.root_.path_), .pv (.str n1.root_.name_), .pv (.slice (List.map Mount.pv n1.mounts_))]] ?_ ?_
              · simp -implicitDefEqProofs only [RUNS, qindex, Nat.reduceAdd, Nat.reduceLeDiff, Nat.reduceSub, reduceIte, Nat.reduceEqDiff, Nat.reduceLT, reduceCtorEq, Nat.reduceMul, if_true, if_false, eq_self, ne_eq, env_bT, NsOp.pv_eq, Word.pv_eq, Chan.pv_eq, Target.pv_eq, P38_eq, Mount.pv_eq, P31_eq, Ns.pv_eq]
              refine AW.ret ?_
              cases h
              show finish _ _ _ _ _ = _
              first | rfl | (simp [finish, resOf, renArgs, toPV, selObjs, sl])
            · replace h := bif_f hb68 h
              refine AW.skip ?_
              refine AW.reg hS [(1, .pv (.str cwd2)), (5, .pv (.int .i64 many14)), (11, .pv (.slice (List.map NsOp.pv r51))), (112, .pv (.int .i64 (l57.length : Int))), (113, .pv (.int .i64 (IntKind.wrap .i64 (i60 + 1))))] [.var [.pv (.int .i64 n1.id_), .pv (.int .i64 n1.root_.dev_), .pv (.int .i64 n1.root_.id_), .pv (.int .i64 n1.root_.fid_), .pv (.str n1.root_.path_), .pv (.str n1.root_.name_), .pv (.slice (List.map Mount.pv n1.mounts_))]] ?_ ?_
              · simp -implicitDefEqProofs only [RUNS, qindex, Nat.reduceAdd, Nat.reduceLeDiff, Nat.reduceSub, reduceIte, Nat.reduceEqDiff, Nat.reduceLT, reduceCtorEq, Nat.reduceMul, if_true, if_false, eq_self, ne_eq, env_bT, T_3, NsOp.pv_eq, Word.pv_eq, Chan.pv_eq, Target.pv_eq, P38_eq, Mount.pv_eq, P31_eq, Ns.pv_eq, eqT_3]
              exact ⟨(m63, IntKind.wrap .i64 (i60 + 1)), h, (Weak.norm (m := 1) (Nat.le_of_ble_eq_true rfl) ⟨rfl, rfl, rfl, rfl, rfl, trivial⟩ rfl rfl rfl), Nat.lt_succ_self _⟩
          · replace h := bif_f hb64 h
            refine AW.exit ?_
            refine AW.seq ?_
            replace h := Option.bind_eq_some_iff.1 h; obtain ⟨u69, q70, h⟩ := h
            have f71 := lidx_f q70
            replace h := Option.bind_eq_some_iff.1 h; obtain ⟨r72, q73, h⟩ := h
            have f74 := fun hg => c_F9 r72 (guardO_t q73 hg)
            try dsimp only at f74
            refine AW.reg hS [(4, .pv (.bool ((decide (u69.kind_ = 5) && (decide (u69.flag_ = 0) && (decide (u69.new_ = cwd2) && (decide (u69.old_ = []))))) && r72)))] [.var [.pv (.int .i64 n1.id_), .pv (.int .i64 n1.root_.dev_), .pv (.int .i64 n1.root_.id_), .pv (.int .i64 n1.root_.fid_), .pv (.str n1.root_.path_), .pv (.str n1.root_.name_), .pv (.slice (List.map Mount.pv n1.mounts_))]] ?_ ?_
            · clear h
              (simp -implicitDefEqProofs only [RUNS, qindex, Nat.reduceAdd, Nat.reduceLeDiff, Nat.reduceSub, reduceIte, Nat.reduceEqDiff, Nat.reduceLT, reduceCtorEq, Nat.reduceMul, if_true, if_false, eq_self, ne_eq, env_bT, T_3, T_23, T_43, NsOp.pv_eq, Word.pv_eq, Chan.pv_eq, Target.pv_eq, P38_eq, Mount.pv_eq, P31_eq, Ns.pv_eq, eqT_3, f71.1, f71.2.1, eqT_23, pf_9, f74]); repeat' (split <;> rename_i hb <;> (try simp only [HBS, ge_iff_le, gt_iff_lt] at hb) <;> simp -implicitDefEqProofs only [RUNS, qindex, Nat.reduceAdd, Nat.reduceLeDiff, Nat.reduceSub, reduceIte, Nat.reduceEqDiff, Nat.reduceLT, reduceCtorEq, Nat.reduceMul, if_true, if_false, eq_self, ne_eq, env_bT, T_3, T_23, T_43, NsOp.pv_eq, Word.pv_eq, Chan.pv_eq, Target.pv_eq, P38_eq, Mount.pv_eq, P31_eq, Ns.pv_eq, eqT_3, f71.1, f71.2.1, eqT_23, pf_9, f74, *, decide_true, decide_false, Decidable.not_not, not_false_eq_true, not_true_eq_false])
              all_goals (first | (simp only [BOOLS]; done) | (simp [*]; done) | ((try simp only [CLOS, beq_iff_eq, bne_iff_ne, ne_eq] at *) <;> omega) | (simp_all; done) | (simp_all <;> omega))
            refine AW.ret ?_
            cases h
            show finish _ _ _ _ _ = _
            first | rfl | (simp [finish, resOf, renArgs, toPV, selObjs, sl])

set_option maxHeartbeats 4000000 in
theorem g_F17 {O : Orc} (hS : Sound env O) (hpf : O.pf = pfn) (c_F10 : C_F10 O) (c_L_WriteString : C_L_WriteString O) (c_L_String : C_L_String O) (l1 : List NsOp) (r2 : Str) (r3 : Int) (h : F17 l1 = some (r2, r3)) : Good env 17 [.pv (.slice (List.map NsOp.pv l1))] [] [.pv (.str r2), .pv (.int .i64 r3)] [] := by
  have pf_10 : O.pf 10 = true := by rw [hpf]; rfl
  have pf_26 : O.pf 26 = false := by rw [hpf]; rfl
  have pf_27 : O.pf 27 = false := by rw [hpf]; rfl
  refine Good.start (fn := Tryd.f17) (N := 28) rfl rfl rfl (by simp) [] _ rfl rfl ?_
  rw [F17] at h
  refine AW.seq ?_
  refine AW.reg hS [(0, .pv (.slice (List.map NsOp.pv l1)))] [] ?_ ?_
  · simp -implicitDefEqProofs only [RUNS, qindex, Nat.reduceAdd, Nat.reduceLeDiff, Nat.reduceSub, reduceIte, Nat.reduceEqDiff, Nat.reduceLT, reduceCtorEq, Nat.reduceMul, if_true, if_false, eq_self, ne_eq, env_bT, NsOp.pv_eq, Word.pv_eq, Chan.pv_eq, Target.pv_eq, P38_eq, Mount.pv_eq, P31_eq, Ns.pv_eq]
  refine AW.seq ?_
  refine AW.reg hS [(0, .pv (.slice (List.map NsOp.pv l1))), (4, .ref 0 0)] [.bld []] ?_ ?_
  · simp -implicitDefEqProofs only [RUNS, qindex, Nat.reduceAdd, Nat.reduceLeDiff, Nat.reduceSub, reduceIte, Nat.reduceEqDiff, Nat.reduceLT, reduceCtorEq, Nat.reduceMul, if_true, if_false, eq_self, ne_eq, env_bT, T_55, NsOp.pv_eq, Word.pv_eq, Chan.pv_eq, Target.pv_eq, P38_eq, Mount.pv_eq, P31_eq, Ns.pv_eq]
  refine AW.seq ?_
  refine AW.seq ?_
  refine AW.reg hS [(4, .ref 0 0), (9, .pv (.slice (List.map NsOp.pv l1))), (10, .pv (.int .i64 (l1.length : Int))), (11, .pv (.int .i64 0))] [.bld []] ?_ ?_
  · simp -implicitDefEqProofs only [RUNS, qindex, Nat.reduceAdd, Nat.reduceLeDiff, Nat.reduceSub, reduceIte, Nat.reduceEqDiff, Nat.reduceLT, reduceCtorEq, Nat.reduceMul, if_true, if_false, eq_self, ne_eq, env_bT, T_23, T_43, NsOp.pv_eq, Word.pv_eq, Chan.pv_eq, Target.pv_eq, P38_eq, Mount.pv_eq, P31_eq, Ns.pv_eq]
  refine AW.block ?_
  refine AW.weak (Weak.slots (L := [(4, .ref 0 0), (9, .pv (.slice (List.map NsOp.pv l1))), (10, .pv (.int .i64 (l1.length : Int))), (11, .pv (.int .i64 0))]) ⟨rfl, rfl, rfl, rfl, trivial⟩) ?_
  refine AW.loopI (α := Nat × Int × Str) (fun (_, i4, b5) => ⟨sl [(4, .ref 0 0), (9, .pv (.slice (List.map NsOp.pv l1))), (10, .pv (.int .i64 (l1.length : Int))), (11, .pv (.int .i64 i4))], 28, [.bld b5]⟩) (fun x => iter (F17_b1 l1) x.1 x.2 = some (r2, r3)) (fun x => x.1) (BIG, (0, [])) h ?_
  clear h
  intro ⟨n30, i4, b5⟩ h
  replace h := iter_some h; obtain ⟨m8, rfl, h⟩ := h
  rw [F17_b1] at h
  try dsimp only at h
  show AW _ _ _ _ ⟨sl [(4, .ref 0 0), (9, .pv (.slice (List.map NsOp.pv l1))), (10, .pv (.int .i64 (l1.length : Int))), (11, .pv (.int .i64 i4))], 28, [.bld b5]⟩
  refine AW.seq ?_
  refine AW.reg hS [(4, .ref 0 0), (9, .pv (.slice (List.map NsOp.pv l1))), (10, .pv (.int .i64 (l1.length : Int))), (11, .pv (.int .i64 i4)), (12, .pv (.bool (decide (i4 < (l1.length : Int)))))] [.bld b5] ?_ ?_
  · simp -implicitDefEqProofs only [RUNS, qindex, Nat.reduceAdd, Nat.reduceLeDiff, Nat.reduceSub, reduceIte, Nat.reduceEqDiff, Nat.reduceLT, reduceCtorEq, Nat.reduceMul, if_true, if_false, eq_self, ne_eq, env_bT, T_3, NsOp.pv_eq, Word.pv_eq, Chan.pv_eq, Target.pv_eq, P38_eq, Mount.pv_eq, P31_eq, Ns.pv_eq, eqT_3]
  refine AW.seq ?_
  refine AW.cond (b := decide (i4 < (l1.length : Int))) rfl (fun hb9 => ?_) (fun hb9 => ?_)
  · replace h := bif_t hb9 h
    refine AW.skip ?_
    refine AW.seq ?_
    refine AW.block ?_
    refine AW.seq ?_
    replace h := Option.bind_eq_some_iff.1 h; obtain ⟨u10, q11, h⟩ := h
    have f12 := lidx_f q11
    refine AW.reg hS [(4, .ref 0 0), (6, .ref 1 0), (9, .pv (.slice (List.map NsOp.pv l1))), (10, .pv (.int .i64 (l1.length : Int))), (11, .pv (.int .i64 i4))] [.bld b5, .var [.pv (.int .i64 u10.kind_), .pv (.int .i64 u10.flag_), .pv (.str u10.new_), .pv (.str u10.old_)]] ?_ ?_
    · simp -implicitDefEqProofs only [RUNS, qindex, Nat.reduceAdd, Nat.reduceLeDiff, Nat.reduceSub, reduceIte, Nat.reduceEqDiff, Nat.reduceLT, reduceCtorEq, Nat.reduceMul, if_true, if_false, eq_self, ne_eq, env_bT, T_23, T_43, NsOp.pv_eq, Word.pv_eq, Chan.pv_eq, Target.pv_eq, P38_eq, Mount.pv_eq, P31_eq, Ns.pv_eq, f12.1, f12.2.1]
    refine AW.seq ?_
    replace h := Option.bind_eq_some_iff.1 h; obtain ⟨⟨r13, r14⟩, q15, h⟩ := h
    dsimp only at h
    have f16 := c_F10 u10 r13 r14 q15
    try dsimp only at f16
    refine AW.reg hS [(4, .ref 0 0), (7, .pv (.str r13)), (8, .pv (.int .i64 r14)), (9, .pv (.slice (List.map NsOp.pv l1))), (10, .pv (.int .i64 (l1.length : Int))), (11, .pv (.int .i64 i4))] [.bld b5, .var [.pv (.int .i64 u10.kind_), .pv (.int .i64 u10.flag_), .pv (.str u10.new_), .pv (.str u10.old_)]] ?_ ?_
    · simp -implicitDefEqProofs only [RUNS, qindex, Nat.reduceAdd, Nat.reduceLeDiff, Nat.reduceSub, reduceIte, Nat.reduceEqDiff, Nat.reduceLT, reduceCtorEq, Nat.reduceMul, if_true, if_false, eq_self, ne_eq, env_bT, T_23, NsOp.pv_eq, Word.pv_eq, Chan.pv_eq, Target.pv_eq, P38_eq, Mount.pv_eq, P31_eq, Ns.pv_eq, pf_10, f16]
    refine AW.seq ?_
    refine AW.seq ?_
    refine AW.reg hS [(4, .ref 0 0), (7, .pv (.str r13)), (8, .pv (.int .i64 r14)), (9, .pv (.slice (List.map NsOp.pv l1))), (10, .pv (.int .i64 (l1.length : Int))), (11, .pv (.int .i64 i4)), (21, .pv (.bool (!decide (r14 = 0))))] [.bld b5, .var [.pv (.int .i64 u10.kind_), .pv (.int .i64 u10.flag_), .pv (.str u10.new_), .pv (.str u10.old_)]] ?_ ?_
    · simp -implicitDefEqProofs only [RUNS, qindex, Nat.reduceAdd, Nat.reduceLeDiff, Nat.reduceSub, reduceIte, Nat.reduceEqDiff, Nat.reduceLT, reduceCtorEq, Nat.reduceMul, if_true, if_false, eq_self, ne_eq, env_bT, T_26, NsOp.pv_eq, Word.pv_eq, Chan.pv_eq, Target.pv_eq, P38_eq, Mount.pv_eq, P31_eq, Ns.pv_eq, eqT_26]
    refine AW.cond (b := !decide (r14 = 0)) rfl (fun hb17 => ?_) (fun hb17 => ?_)
    · replace h := bif_t hb17 h
      refine AW.seq ?_
      refine AW.reg hS [(2, .pv (.str [])), (3, .pv (.int .i64 r14))] [.bld b5, .var [.pv (.int .i64 u10.kind_), .pv (.int .i64 u10.flag_), .pv (.str u10.new_), .pv (.str u10.old_)]] ?_ ?_
      · simp -implicitDefEqProofs only [RUNS, qindex, Nat.reduceAdd, Nat.reduceLeDiff, Nat.reduceSub, reduceIte, Nat.reduceEqDiff, Nat.reduceLT, reduceCtorEq, Nat.reduceMul, if_true, if_false, eq_self, ne_eq, env_bT, NsOp.pv_eq, Word.pv_eq, Chan.pv_eq, Target.pv_eq, P38_eq, Mount.pv_eq, P31_eq, Ns.pv_eq]
      refine AW.ret ?_
      cases h
      show finish _ _ _ _ _ = _
      first | rfl | (simp [finish, resOf, renArgs, toPV, selObjs, sl])
    · replace h := bif_f hb17 h
      refine AW.skip ?_
      replace h := Option.bind_eq_some_iff.1 h; obtain ⟨s18, q19, h⟩ := h
      have f20 := catO_f q19
      try simp only [List.length_cons, List.length_nil, Nat.zero_add, Nat.reduceAdd, Nat.reduceLeDiff, Nat.add_zero, Nat.reduceMul] at f20
      replace h := Option.bind_eq_some_iff.1 h; obtain ⟨⟨n21, c22⟩, q23, h⟩ := h
      dsimp only at h
      have f24 := c_L_WriteString b5 s18 n21 c22 q23
      try dsimp only at f24
      have e25 : ecall O [.bld b5, .var [.pv (.int .i64 u10.kind_), .pv (.int .i64 u10.flag_), .pv (.str u10.new_), .pv (.str u10.old_)]] 26 [.ref 0 0, .pv (.str s18)] = some (retAV [.pv (.int .i64 n21), .pv (.nil)], [.bld c22, .var [.pv (.int .i64 u10.kind_), .pv (.int .i64 u10.flag_), .pv (.str u10.new_), .pv (.str u10.old_)]]) := ecall_eq rfl rfl rfl f24 rfl rfl rfl
      refine AW.reg hS [(4, .ref 0 0), (9, .pv (.slice (List.map NsOp.pv l1))), (10, .pv (.int .i64 (l1.length : Int))), (11, .pv (.int .i64 i4))] [.bld c22, .var [.pv (.int .i64 u10.kind_), .pv (.int .i64 u10.flag_), .pv (.str u10.new_), .pv (.str u10.old_)]] ?_ ?_
      · simp -implicitDefEqProofs only [RUNS, qindex, Nat.reduceAdd, Nat.reduceLeDiff, Nat.reduceSub, reduceIte, Nat.reduceEqDiff, Nat.reduceLT, reduceCtorEq, Nat.reduceMul, if_true, if_false, eq_self, ne_eq, env_bT, T_9, T_55, NsOp.pv_eq, Word.pv_eq, Chan.pv_eq, Target.pv_eq, P38_eq, Mount.pv_eq, P31_eq, Ns.pv_eq, eqT_9, f20.1, f20.2, pf_26, e25]
      refine AW.reg hS [(4, .ref 0 0), (9, .pv (.slice (List.map NsOp.pv l1))), (10, .pv (.int .i64 (l1.length : Int))), (11, .pv (.int .i64 (IntKind.wrap .i64 (i4 + 1))))] [.bld c22, .var [.pv (.int .i64 u10.kind_), .pv (.int .i64 u10.flag_), .pv (.str u10.new_), .pv (.str u10.old_)]] ?_ ?_
      · simp -implicitDefEqProofs only [RUNS, qindex, Nat.reduceAdd, Nat.reduceLeDiff, Nat.reduceSub, reduceIte, Nat.reduceEqDiff, Nat.reduceLT, reduceCtorEq, Nat.reduceMul, if_true, if_false, eq_self, ne_eq, env_bT, T_3, NsOp.pv_eq, Word.pv_eq, Chan.pv_eq, Target.pv_eq, P38_eq, Mount.pv_eq, P31_eq, Ns.pv_eq, eqT_3]
      exact ⟨(m8, (IntKind.wrap .i64 (i4 + 1), c22)), h, (Weak.norm (m := 1) (Nat.le_of_ble_eq_true rfl) ⟨rfl, rfl, rfl, rfl, trivial⟩ rfl rfl rfl), Nat.lt_succ_self _⟩
  · replace h := bif_f hb9 h
    refine AW.exit ?_
    refine AW.seq ?_
    replace h := Option.bind_eq_some_iff.1 h; obtain ⟨s26, q27, h⟩ := h
    have f28 := c_L_String b5 s26 q27
    try dsimp only at f28
    have e29 : ecall O [.bld b5] 27 [.ref 0 0] = some (retAV [.pv (.str s26)], [.gone]) := ecall_eq rfl rfl rfl f28 rfl rfl rfl
    refine AW.reg hS [(2, .pv (.str s26)), (3, .pv (.int .i64 0))] [.gone] ?_ ?_
    · simp -implicitDefEqProofs only [RUNS, qindex, Nat.reduceAdd, Nat.reduceLeDiff, Nat.reduceSub, reduceIte, Nat.reduceEqDiff, Nat.reduceLT, reduceCtorEq, Nat.reduceMul, if_true, if_false, eq_self, ne_eq, env_bT, T_55, NsOp.pv_eq, Word.pv_eq, Chan.pv_eq, Target.pv_eq, P38_eq, Mount.pv_eq, P31_eq, Ns.pv_eq, pf_27, e29]
    refine AW.ret ?_
    cases h
    show finish _ _ _ _ _ = _
    first | rfl | (simp [finish, resOf, renArgs, toPV, selObjs, sl])

set_option maxHeartbeats 4000000 in
theorem g_F18 {O : Orc} (hS : Sound env O) (hpf : O.pf = pfn) (c_F11 : C_F11 O) (l1 : List NsOp) (r2 : Str) (r3 : Int) (h : F18 l1 = some (r2, r3)) : Good env 18 [.pv (.slice (List.map NsOp.pv l1))] [] [.pv (.str r2), .pv (.int .i64 r3)] [] := by
  have pf_11 : O.pf 11 = true := by rw [hpf]; rfl
  refine Good.start (fn := Tryd.f18) (N := 30) rfl rfl rfl (by simp) [] _ rfl rfl ?_
  rw [F18] at h
  refine AW.seq ?_
  refine AW.reg hS [(0, .pv (.slice (List.map NsOp.pv l1)))] [] ?_ ?_
  · simp -implicitDefEqProofs only [RUNS, qindex, Nat.reduceAdd, Nat.reduceLeDiff, Nat.reduceSub, reduceIte, Nat.reduceEqDiff, Nat.reduceLT, reduceCtorEq, Nat.reduceMul, if_true, if_false, eq_self, ne_eq, env_bT, NsOp.pv_eq, Word.pv_eq, Chan.pv_eq, Target.pv_eq, P38_eq, Mount.pv_eq, P31_eq, Ns.pv_eq]
  refine AW.seq ?_
  refine AW.reg hS [(0, .pv (.slice (List.map NsOp.pv l1))), (4, .pv (.str []))] [] ?_ ?_
  · simp -implicitDefEqProofs only [RUNS, qindex, Nat.reduceAdd, Nat.reduceLeDiff, Nat.reduceSub, reduceIte, Nat.reduceEqDiff, Nat.reduceLT, reduceCtorEq, Nat.reduceMul, if_true, if_false, eq_self, ne_eq, env_bT, NsOp.pv_eq, Word.pv_eq, Chan.pv_eq, Target.pv_eq, P38_eq, Mount.pv_eq, P31_eq, Ns.pv_eq]
  refine AW.seq ?_
  refine AW.seq ?_
  refine AW.reg hS [(0, .pv (.slice (List.map NsOp.pv l1))), (4, .pv (.str [])), (5, .pv (.int .i64 0))] [] ?_ ?_
  · simp -implicitDefEqProofs only [RUNS, qindex, Nat.reduceAdd, Nat.reduceLeDiff, Nat.reduceSub, reduceIte, Nat.reduceEqDiff, Nat.reduceLT, reduceCtorEq, Nat.reduceMul, if_true, if_false, eq_self, ne_eq, env_bT, NsOp.pv_eq, Word.pv_eq, Chan.pv_eq, Target.pv_eq, P38_eq, Mount.pv_eq, P31_eq, Ns.pv_eq]
  refine AW.block ?_
  refine AW.weak (Weak.slots (L := [(0, .pv (.slice (List.map NsOp.pv l1))), (4, .pv (.str [])), (5, .pv (.int .i64 0))]) ⟨rfl, rfl, rfl, trivial⟩) ?_
  refine AW.loopI (α := Nat × Str × Int) (fun (_, s4, i5) => ⟨sl [(0, .pv (.slice (List.map NsOp.pv l1))), (4, .pv (.str s4)), (5, .pv (.int .i64 i5))], 30, []⟩) (fun x => iter (F18_b1 l1) x.1 x.2 = some (r2, r3)) (fun x => x.1) (BIG, ([], 0)) h ?_
  clear h
  intro ⟨n24, s4, i5⟩ h
  replace h := iter_some h; obtain ⟨m8, rfl, h⟩ := h
  rw [F18_b1] at h
  try dsimp only at h
  show AW _ _ _ _ ⟨sl [(0, .pv (.slice (List.map NsOp.pv l1))), (4, .pv (.str s4)), (5, .pv (.int .i64 i5))], 30, []⟩
  refine AW.seq ?_
  refine AW.seq ?_
  refine AW.reg hS [(0, .pv (.slice (List.map NsOp.pv l1))), (4, .pv (.str s4)), (5, .pv (.int .i64 i5)), (11, .pv (.bool (decide (i5 < (l1.length : Int)))))] [] ?_ ?_
  · simp -implicitDefEqProofs only [RUNS, qindex, Nat.reduceAdd, Nat.reduceLeDiff, Nat.reduceSub, reduceIte, Nat.reduceEqDiff, Nat.reduceLT, reduceCtorEq, Nat.reduceMul, if_true, if_false, eq_self, ne_eq, env_bT, T_3, T_23, T_43, NsOp.pv_eq, Word.pv_eq, Chan.pv_eq, Target.pv_eq, P38_eq, Mount.pv_eq, P31_eq, Ns.pv_eq, eqT_3]
  refine AW.cond (b := decide (i5 < (l1.length : Int))) rfl (fun hb9 => ?_) (fun hb9 => ?_)
  · replace h := bif_t hb9 h
    refine AW.skip ?_
    refine AW.seq ?_
    refine AW.block ?_
    refine AW.seq ?_
    replace h := Option.bind_eq_some_iff.1 h; obtain ⟨u10, q11, h⟩ := h
    have f12 := lidx_f q11
    replace h := Option.bind_eq_some_iff.1 h; obtain ⟨⟨r13, r14⟩, q15, h⟩ := h
    dsimp only at h
    have f16 := c_F11 u10 r13 r14 q15
    try dsimp only at f16
    refine AW.reg hS [(0, .pv (.slice (List.map NsOp.pv l1))), (4, .pv (.str s4)), (5, .pv (.int .i64 i5)), (6, .pv (.str r13)), (7, .pv (.int .i64 r14))] [] ?_ ?_
    · simp -implicitDefEqProofs only [RUNS, qindex, Nat.reduceAdd, Nat.reduceLeDiff, Nat.reduceSub, reduceIte, Nat.reduceEqDiff, Nat.reduceLT, reduceCtorEq, Nat.reduceMul, if_true, if_false, eq_self, ne_eq, env_bT, T_23, T_43, NsOp.pv_eq, Word.pv_eq, Chan.pv_eq, Target.pv_eq, P38_eq, Mount.pv_eq, P31_eq, Ns.pv_eq, f12.1, f12.2.1, pf_11, f16]
    refine AW.seq ?_
    refine AW.seq ?_
    refine AW.reg hS [(0, .pv (.slice (List.map NsOp.pv l1))), (4, .pv (.str s4)), (5, .pv (.int .i64 i5)), (6, .pv (.str r13)), (7, .pv (.int .i64 r14)), (23, .pv (.bool (!decide (r14 = 0))))] [] ?_ ?_
    · simp -implicitDefEqProofs only [RUNS, qindex, Nat.reduceAdd, Nat.reduceLeDiff, Nat.reduceSub, reduceIte, Nat.reduceEqDiff, Nat.reduceLT, reduceCtorEq, Nat.reduceMul, if_true, if_false, eq_self, ne_eq, env_bT, T_26, NsOp.pv_eq, Word.pv_eq, Chan.pv_eq, Target.pv_eq, P38_eq, Mount.pv_eq, P31_eq, Ns.pv_eq, eqT_26]
    refine AW.cond (b := !decide (r14 = 0)) rfl (fun hb17 => ?_) (fun hb17 => ?_)
    · replace h := bif_t hb17 h
      refine AW.seq ?_
      refine AW.reg hS [(2, .pv (.str [])), (3, .pv (.int .i64 r14))] [] ?_ ?_
      · simp -implicitDefEqProofs only [RUNS, qindex, Nat.reduceAdd, Nat.reduceLeDiff, Nat.reduceSub, reduceIte, Nat.reduceEqDiff, Nat.reduceLT, reduceCtorEq, Nat.reduceMul, if_true, if_false, eq_self, ne_eq, env_bT, NsOp.pv_eq, Word.pv_eq, Chan.pv_eq, Target.pv_eq, P38_eq, Mount.pv_eq, P31_eq, Ns.pv_eq]
      refine AW.ret ?_
      cases h
      show finish _ _ _ _ _ = _
      first | rfl | (simp [finish, resOf, renArgs, toPV, selObjs, sl])
    · replace h := bif_f hb17 h
      refine AW.skip ?_
      replace h := Option.bind_eq_some_iff.1 h; obtain ⟨s18, q19, h⟩ := h
      have f20 := catO_f q19
      try simp only [List.length_cons, List.length_nil, Nat.zero_add, Nat.reduceAdd, Nat.reduceLeDiff, Nat.add_zero, Nat.reduceMul] at f20
      replace h := Option.bind_eq_some_iff.1 h; obtain ⟨s21, q22, h⟩ := h
      have f23 := catO_f q22
      try simp only [List.length_cons, List.length_nil, Nat.zero_add, Nat.reduceAdd, Nat.reduceLeDiff, Nat.add_zero, Nat.reduceMul] at f23
      refine AW.reg hS [(0, .pv (.slice (List.map NsOp.pv l1))), (4, .pv (.str s21)), (5, .pv (.int .i64 i5))] [] ?_ ?_
      · simp -implicitDefEqProofs only [RUNS, qindex, Nat.reduceAdd, Nat.reduceLeDiff, Nat.reduceSub, reduceIte, Nat.reduceEqDiff, Nat.reduceLT, reduceCtorEq, Nat.reduceMul, if_true, if_false, eq_self, ne_eq, env_bT, T_9, NsOp.pv_eq, Word.pv_eq, Chan.pv_eq, Target.pv_eq, P38_eq, Mount.pv_eq, P31_eq, Ns.pv_eq, eqT_9, f20.1, f20.2, f23.1, f23.2]
      refine AW.reg hS [(0, .pv (.slice (List.map NsOp.pv l1))), (4, .pv (.str s21)), (5, .pv (.int .i64 (IntKind.wrap .i64 (i5 + 1))))] [] ?_ ?_
      · simp -implicitDefEqProofs only [RUNS, qindex, Nat.reduceAdd, Nat.reduceLeDiff, Nat.reduceSub, reduceIte, Nat.reduceEqDiff, Nat.reduceLT, reduceCtorEq, Nat.reduceMul, if_true, if_false, eq_self, ne_eq, env_bT, T_3, NsOp.pv_eq, Word.pv_eq, Chan.pv_eq, Target.pv_eq, P38_eq, Mount.pv_eq, P31_eq, Ns.pv_eq, eqT_3]
      exact ⟨(m8, (s21, IntKind.wrap .i64 (i5 + 1))), h, (Weak.norm (m := 0) (Nat.le_of_ble_eq_true rfl) ⟨rfl, rfl, rfl, trivial⟩ rfl rfl rfl), Nat.lt_succ_self _⟩
  · replace h := bif_f hb9 h
    refine AW.exit ?_
    refine AW.seq ?_
    refine AW.reg hS [(2, .pv (.str s4)), (3, .pv (.int .i64 0))] [] ?_ ?_
    · simp -implicitDefEqProofs only [RUNS, qindex, Nat.reduceAdd, Nat.reduceLeDiff, Nat.reduceSub, reduceIte, Nat.reduceEqDiff, Nat.reduceLT, reduceCtorEq, Nat.reduceMul, if_true, if_false, eq_self, ne_eq, env_bT, NsOp.pv_eq, Word.pv_eq, Chan.pv_eq, Target.pv_eq, P38_eq, Mount.pv_eq, P31_eq, Ns.pv_eq]
    refine AW.ret ?_
    cases h
    show finish _ _ _ _ _ = _
    first | rfl | (simp [finish, resOf, renArgs, toPV, selObjs, sl])

set_option maxHeartbeats 4000000 in
theorem g_F6 {O : Orc} (hS : Sound env O) (hpf : O.pf = pfn) (c_F9 : C_F9 O) (c_F8 : C_F8 O) (c_F17 : C_F17 O) (c_F18 : C_F18 O) (l1 : List NsOp) (r2 : Bool) (h : F6 l1 = some r2) : Good env 6 [.pv (.slice (List.map NsOp.pv l1))] [] [.pv (.bool r2)] [] := by
  have pf_8 : O.pf 8 = true := by rw [hpf]; rfl
  have pf_9 : O.pf 9 = true := by rw [hpf]; rfl
  have pf_17 : O.pf 17 = true := by rw [hpf]; rfl
  have pf_18 : O.pf 18 = true := by rw [hpf]; rfl
  refine Good.start (fn := Tryd.f6) (N := 46) rfl rfl rfl (by simp) [] _ rfl rfl ?_
  rw [F6] at h
  refine AW.seq ?_
  refine AW.reg hS [(0, .pv (.slice (List.map NsOp.pv l1)))] [] ?_ ?_
  · simp -implicitDefEqProofs only [RUNS, qindex, Nat.reduceAdd, Nat.reduceLeDiff, Nat.reduceSub, reduceIte, Nat.reduceEqDiff, Nat.reduceLT, reduceCtorEq, Nat.reduceMul, if_true, if_false, eq_self, ne_eq, env_bT, NsOp.pv_eq, Word.pv_eq, Chan.pv_eq, Target.pv_eq, P38_eq, Mount.pv_eq, P31_eq, Ns.pv_eq]
  refine AW.seq ?_
  refine AW.seq ?_
  refine AW.reg hS [(0, .pv (.slice (List.map NsOp.pv l1))), (10, .pv (.bool (decide (50 < (l1.length : Int)))))] [] ?_ ?_
  · simp -implicitDefEqProofs only [RUNS, qindex, Nat.reduceAdd, Nat.reduceLeDiff, Nat.reduceSub, reduceIte, Nat.reduceEqDiff, Nat.reduceLT, reduceCtorEq, Nat.reduceMul, if_true, if_false, eq_self, ne_eq, env_bT, T_3, T_23, T_43, NsOp.pv_eq, Word.pv_eq, Chan.pv_eq, Target.pv_eq, P38_eq, Mount.pv_eq, P31_eq, Ns.pv_eq, eqT_3]
  refine AW.cond (b := decide (50 < (l1.length : Int))) rfl (fun hb3 => ?_) (fun hb3 => ?_)
  · replace h := bif_t hb3 h
    refine AW.seq ?_
    replace h := Option.bind_eq_some_iff.1 h; obtain ⟨r4, q5, h⟩ := h
    have f6 := c_F9 r4 q5
    try dsimp only at f6
    refine AW.reg hS [(2, .pv (.bool r4))] [] ?_ ?_
    · simp -implicitDefEqProofs only [RUNS, qindex, Nat.reduceAdd, Nat.reduceLeDiff, Nat.reduceSub, reduceIte, Nat.reduceEqDiff, Nat.reduceLT, reduceCtorEq, Nat.reduceMul, if_true, if_false, eq_self, ne_eq, env_bT, NsOp.pv_eq, Word.pv_eq, Chan.pv_eq, Target.pv_eq, P38_eq, Mount.pv_eq, P31_eq, Ns.pv_eq, pf_9, f6]
    refine AW.ret ?_
    cases h
    show finish _ _ _ _ _ = _
    first | rfl | (simp [finish, resOf, renArgs, toPV, selObjs, sl])
  · replace h := bif_f hb3 h
    refine AW.skip ?_
    refine AW.seq ?_
    refine AW.seq ?_
    refine AW.reg hS [(0, .pv (.slice (List.map NsOp.pv l1))), (13, .pv (.int .i64 (l1.length : Int))), (14, .pv (.int .i64 0))] [] ?_ ?_
    · simp -implicitDefEqProofs only [RUNS, qindex, Nat.reduceAdd, Nat.reduceLeDiff, Nat.reduceSub, reduceIte, Nat.reduceEqDiff, Nat.reduceLT, reduceCtorEq, Nat.reduceMul, if_true, if_false, eq_self, ne_eq, env_bT, T_23, T_43, NsOp.pv_eq, Word.pv_eq, Chan.pv_eq, Target.pv_eq, P38_eq, Mount.pv_eq, P31_eq, Ns.pv_eq]
    refine AW.block ?_
    refine AW.weak (Weak.slots (L := [(0, .pv (.slice (List.map NsOp.pv l1))), (13, .pv (.int .i64 (l1.length : Int))), (14, .pv (.int .i64 0))]) ⟨rfl, rfl, rfl, trivial⟩) ?_
    refine AW.loopI (α := Nat × Int) (fun (_, i7) => ⟨sl [(0, .pv (.slice (List.map NsOp.pv l1))), (13, .pv (.int .i64 (l1.length : Int))), (14, .pv (.int .i64 i7))], 46, []⟩) (fun x => iter (F6_b1 l1) x.1 x.2 = some r2) (fun x => x.1) (BIG, 0) h ?_
    clear h
    intro ⟨n33, i7⟩ h
    replace h := iter_some h; obtain ⟨m10, rfl, h⟩ := h
    rw [F6_b1] at h
    try dsimp only at h
    show AW _ _ _ _ ⟨sl [(0, .pv (.slice (List.map NsOp.pv l1))), (13, .pv (.int .i64 (l1.length : Int))), (14, .pv (.int .i64 i7))], 46, []⟩
    refine AW.seq ?_
    refine AW.reg hS [(0, .pv (.slice (List.map NsOp.pv l1))), (13, .pv (.int .i64 (l1.length : Int))), (14, .pv (.int .i64 i7)), (15, .pv (.bool (decide (i7 < (l1.length : Int)))))] [] ?_ ?_
    · simp -implicitDefEqProofs only [RUNS, qindex, Nat.reduceAdd, Nat.reduceLeDiff, Nat.reduceSub, reduceIte, Nat.reduceEqDiff, Nat.reduceLT, reduceCtorEq, Nat.reduceMul, if_true, if_false, eq_self, ne_eq, env_bT, T_3, NsOp.pv_eq, Word.pv_eq, Chan.pv_eq, Target.pv_eq, P38_eq, Mount.pv_eq, P31_eq, Ns.pv_eq, eqT_3]
    refine AW.seq ?_
    refine AW.cond (b := decide (i7 < (l1.length : Int))) rfl (fun hb11 => ?_) (fun hb11 => ?_)
    · replace h := bif_t hb11 h
      refine AW.skip ?_
      refine AW.seq ?_
      refine AW.block ?_
      refine AW.seq ?_
      refine AW.reg hS [(0, .pv (.slice (List.map NsOp.pv l1))), (3, .pv (.int .i64 i7)), (13, .pv (.int .i64 (l1.length : Int))), (14, .pv (.int .i64 i7))] [] ?_ ?_
      · simp -implicitDefEqProofs only [RUNS, qindex, Nat.reduceAdd, Nat.reduceLeDiff, Nat.reduceSub, reduceIte, Nat.reduceEqDiff, Nat.reduceLT, reduceCtorEq, Nat.reduceMul, if_true, if_false, eq_self, ne_eq, env_bT, NsOp.pv_eq, Word.pv_eq, Chan.pv_eq, Target.pv_eq, P38_eq, Mount.pv_eq, P31_eq, Ns.pv_eq]
      refine AW.seq ?_
      replace h := Option.bind_eq_some_iff.1 h; obtain ⟨u12, q13, h⟩ := h
      have f14 := lidx_f q13
      replace h := Option.bind_eq_some_iff.1 h; obtain ⟨r15, q16, h⟩ := h
      have f17 := c_F8 u12 r15 q16
      try dsimp only at f17
      refine AW.reg hS [(0, .pv (.slice (List.map NsOp.pv l1))), (13, .pv (.int .i64 (l1.length : Int))), (14, .pv (.int .i64 i7)), (22, .pv (.bool (!r15)))] [] ?_ ?_
      · simp -implicitDefEqProofs only [RUNS, qindex, Nat.reduceAdd, Nat.reduceLeDiff, Nat.reduceSub, reduceIte, Nat.reduceEqDiff, Nat.reduceLT, reduceCtorEq, Nat.reduceMul, if_true, if_false, eq_self, ne_eq, env_bT, T_23, T_43, NsOp.pv_eq, Word.pv_eq, Chan.pv_eq, Target.pv_eq, P38_eq, Mount.pv_eq, P31_eq, Ns.pv_eq, f14.1, f14.2.1, pf_8, f17]
      refine AW.cond (b := !r15) rfl (fun hb18 => ?_) (fun hb18 => ?_)
      · replace h := bif_t hb18 h
        refine AW.seq ?_
        replace h := Option.bind_eq_some_iff.1 h; obtain ⟨r19, q20, h⟩ := h
        have f21 := c_F9 r19 q20
        try dsimp only at f21
        refine AW.reg hS [(2, .pv (.bool r19))] [] ?_ ?_
        · simp -implicitDefEqProofs only [RUNS, qindex, Nat.reduceAdd, Nat.reduceLeDiff, Nat.reduceSub, reduceIte, Nat.reduceEqDiff, Nat.reduceLT, reduceCtorEq, Nat.reduceMul, if_true, if_false, eq_self, ne_eq, env_bT, NsOp.pv_eq, Word.pv_eq, Chan.pv_eq, Target.pv_eq, P38_eq, Mount.pv_eq, P31_eq, Ns.pv_eq, pf_9, f21]
        refine AW.ret ?_
        cases h
        show finish _ _ _ _ _ = _
        first | rfl | (simp [finish, resOf, renArgs, toPV, selObjs, sl])
      · replace h := bif_f hb18 h
        refine AW.skip ?_
        refine AW.reg hS [(0, .pv (.slice (List.map NsOp.pv l1))), (13, .pv (.int .i64 (l1.length : Int))), (14, .pv (.int .i64 (IntKind.wrap .i64 (i7 + 1))))] [] ?_ ?_
        · simp -implicitDefEqProofs only [RUNS, qindex, Nat.reduceAdd, Nat.reduceLeDiff, Nat.reduceSub, reduceIte, Nat.reduceEqDiff, Nat.reduceLT, reduceCtorEq, Nat.reduceMul, if_true, if_false, eq_self, ne_eq, env_bT, T_3, NsOp.pv_eq, Word.pv_eq, Chan.pv_eq, Target.pv_eq, P38_eq, Mount.pv_eq, P31_eq, Ns.pv_eq, eqT_3]
        exact ⟨(m10, IntKind.wrap .i64 (i7 + 1)), h, (Weak.norm (m := 0) (Nat.le_of_ble_eq_true rfl) ⟨rfl, rfl, rfl, trivial⟩ rfl rfl rfl), Nat.lt_succ_self _⟩
    · replace h := bif_f hb11 h
      refine AW.exit ?_
      refine AW.seq ?_
      replace h := Option.bind_eq_some_iff.1 h; obtain ⟨⟨r22, r23⟩, q24, h⟩ := h
      dsimp only at h
      have f25 := c_F17 l1 r22 r23 q24
      try dsimp only at f25
      refine AW.reg hS [(0, .pv (.slice (List.map NsOp.pv l1))), (4, .pv (.str r22)), (5, .pv (.int .i64 r23))] [] ?_ ?_
      · simp -implicitDefEqProofs only [RUNS, qindex, Nat.reduceAdd, Nat.reduceLeDiff, Nat.reduceSub, reduceIte, Nat.reduceEqDiff, Nat.reduceLT, reduceCtorEq, Nat.reduceMul, if_true, if_false, eq_self, ne_eq, env_bT, T_23, T_43, NsOp.pv_eq, Word.pv_eq, Chan.pv_eq, Target.pv_eq, P38_eq, Mount.pv_eq, P31_eq, Ns.pv_eq, pf_17, f25]
      refine AW.seq ?_
      replace h := Option.bind_eq_some_iff.1 h; obtain ⟨⟨r26, r27⟩, q28, h⟩ := h
      dsimp only at h
      have f29 := c_F18 l1 r26 r27 q28
      try dsimp only at f29
      refine AW.reg hS [(4, .pv (.str r22)), (5, .pv (.int .i64 r23)), (6, .pv (.str r26)), (7, .pv (.int .i64 r27))] [] ?_ ?_
      · simp -implicitDefEqProofs only [RUNS, qindex, Nat.reduceAdd, Nat.reduceLeDiff, Nat.reduceSub, reduceIte, Nat.reduceEqDiff, Nat.reduceLT, reduceCtorEq, Nat.reduceMul, if_true, if_false, eq_self, ne_eq, env_bT, T_23, T_43, NsOp.pv_eq, Word.pv_eq, Chan.pv_eq, Target.pv_eq, P38_eq, Mount.pv_eq, P31_eq, Ns.pv_eq, pf_18, f29]
      refine AW.seq ?_
      replace h := Option.bind_eq_some_iff.1 h; obtain ⟨r30, q31, h⟩ := h
      have f32 := fun hg => c_F9 r30 (guardO_t q31 hg)
      try dsimp only at f32
      refine AW.reg hS [(2, .pv (.bool ((decide (r22 = r26) && decide (r23 = r27)) && r30)))] [] ?_ ?_
      · clear h
        (simp -implicitDefEqProofs only [RUNS, qindex, Nat.reduceAdd, Nat.reduceLeDiff, Nat.reduceSub, reduceIte, Nat.reduceEqDiff, Nat.reduceLT, reduceCtorEq, Nat.reduceMul, if_true, if_false, eq_self, ne_eq, env_bT, T_9, T_26, NsOp.pv_eq, Word.pv_eq, Chan.pv_eq, Target.pv_eq, P38_eq, Mount.pv_eq, P31_eq, Ns.pv_eq, eqT_9, eqT_26, pf_9, f32]); repeat' (split <;> rename_i hb <;> (try simp only [HBS, ge_iff_le, gt_iff_lt] at hb) <;> simp -implicitDefEqProofs only [RUNS, qindex, Nat.reduceAdd, Nat.reduceLeDiff, Nat.reduceSub, reduceIte, Nat.reduceEqDiff, Nat.reduceLT, reduceCtorEq, Nat.reduceMul, if_true, if_false, eq_self, ne_eq, env_bT, T_9, T_26, NsOp.pv_eq, Word.pv_eq, Chan.pv_eq, Target.pv_eq, P38_eq, Mount.pv_eq, P31_eq, Ns.pv_eq, eqT_9, eqT_26, pf_9, f32, *, decide_true, decide_false, Decidable.not_not, not_false_eq_true, not_true_eq_false])
        all_goals (first | (simp only [BOOLS]; done) | (simp [*]; done) | ((try simp only [CLOS, beq_iff_eq, bne_iff_ne, ne_eq] at *) <;> omega) | (simp_all; done) | (simp_all <;> omega))
      refine AW.ret ?_
      cases h
      show finish _ _ _ _ _ = _
      first | rfl | (simp [finish, resOf, renArgs, toPV, selObjs, sl])

set_option maxHeartbeats 4000000 in
theorem g_F21 {O : Orc} (hS : Sound env O) (hpf : O.pf = pfn) (a1 : List NsOp) (b2 : List NsOp) (r3 : Bool) (h : F21 a1 b2 = some r3) : Good env 21 [.pv (.slice (List.map NsOp.pv a1)), .pv (.slice (List.map NsOp.pv b2))] [] [.pv (.bool r3)] [] := by
  refine Good.start (fn := Tryd.f21) (N := 26) rfl rfl rfl (by simp) [] _ rfl rfl ?_
  rw [F21] at h
  refine AW.seq ?_
  refine AW.reg hS [(0, .pv (.slice (List.map NsOp.pv a1))), (1, .pv (.slice (List.map NsOp.pv b2)))] [] ?_ ?_
  · simp -implicitDefEqProofs only [RUNS, qindex, Nat.reduceAdd, Nat.reduceLeDiff, Nat.reduceSub, reduceIte, Nat.reduceEqDiff, Nat.reduceLT, reduceCtorEq, Nat.reduceMul, if_true, if_false, eq_self, ne_eq, env_bT, NsOp.pv_eq, Word.pv_eq, Chan.pv_eq, Target.pv_eq, P38_eq, Mount.pv_eq, P31_eq, Ns.pv_eq]
  refine AW.seq ?_
  refine AW.seq ?_
  refine AW.reg hS [(0, .pv (.slice (List.map NsOp.pv a1))), (1, .pv (.slice (List.map NsOp.pv b2))), (10, .pv (.bool (!decide ((a1.length : Int) = (b2.length : Int)))))] [] ?_ ?_
  · simp -implicitDefEqProofs only [RUNS, qindex, Nat.reduceAdd, Nat.reduceLeDiff, Nat.reduceSub, reduceIte, Nat.reduceEqDiff, Nat.reduceLT, reduceCtorEq, Nat.reduceMul, if_true, if_false, eq_self, ne_eq, env_bT, T_3, T_23, T_43, NsOp.pv_eq, Word.pv_eq, Chan.pv_eq, Target.pv_eq, P38_eq, Mount.pv_eq, P31_eq, Ns.pv_eq, eqT_3]
  refine AW.cond (b := !decide ((a1.length : Int) = (b2.length : Int))) rfl (fun hb4 => ?_) (fun hb4 => ?_)
  · replace h := bif_t hb4 h
    refine AW.seq ?_
    refine AW.reg hS [(4, .pv (.bool false))] [] ?_ ?_
    · simp -implicitDefEqProofs only [RUNS, qindex, Nat.reduceAdd, Nat.reduceLeDiff, Nat.reduceSub, reduceIte, Nat.reduceEqDiff, Nat.reduceLT, reduceCtorEq, Nat.reduceMul, if_true, if_false, eq_self, ne_eq, env_bT, NsOp.pv_eq, Word.pv_eq, Chan.pv_eq, Target.pv_eq, P38_eq, Mount.pv_eq, P31_eq, Ns.pv_eq]
    refine AW.ret ?_
    cases h
    show finish _ _ _ _ _ = _
    first | rfl | (simp [finish, resOf, renArgs, toPV, selObjs, sl])
  · replace h := bif_f hb4 h
    refine AW.skip ?_
    refine AW.seq ?_
    refine AW.seq ?_
    refine AW.reg hS [(0, .pv (.slice (List.map NsOp.pv a1))), (1, .pv (.slice (List.map NsOp.pv b2))), (5, .pv (.int .i64 0))] [] ?_ ?_
    · simp -implicitDefEqProofs only [RUNS, qindex, Nat.reduceAdd, Nat.reduceLeDiff, Nat.reduceSub, reduceIte, Nat.reduceEqDiff, Nat.reduceLT, reduceCtorEq, Nat.reduceMul, if_true, if_false, eq_self, ne_eq, env_bT, NsOp.pv_eq, Word.pv_eq, Chan.pv_eq, Target.pv_eq, P38_eq, Mount.pv_eq, P31_eq, Ns.pv_eq]
    refine AW.block ?_
    refine AW.weak (Weak.slots (L := [(0, .pv (.slice (List.map NsOp.pv a1))), (1, .pv (.slice (List.map NsOp.pv b2))), (5, .pv (.int .i64 0))]) ⟨rfl, rfl, rfl, trivial⟩) ?_
    refine AW.loopI (α := Nat × Int) (fun (_, i5) => ⟨sl [(0, .pv (.slice (List.map NsOp.pv a1))), (1, .pv (.slice (List.map NsOp.pv b2))), (5, .pv (.int .i64 i5))], 26, []⟩) (fun x => iter (F21_b1 a1 b2) x.1 x.2 = some r3) (fun x => x.1) (BIG, 0) h ?_
    clear h
    intro ⟨n17, i5⟩ h
    replace h := iter_some h; obtain ⟨m8, rfl, h⟩ := h
    rw [F21_b1] at h
    try dsimp only at h
    show AW _ _ _ _ ⟨sl [(0, .pv (.slice (List.map NsOp.pv a1))), (1, .pv (.slice (List.map NsOp.pv b2))), (5, .pv (.int .i64 i5))], 26, []⟩
    refine AW.seq ?_
    refine AW.seq ?_
    refine AW.reg hS [(0, .pv (.slice (List.map NsOp.pv a1))), (1, .pv (.slice (List.map NsOp.pv b2))), (5, .pv (.int .i64 i5)), (14, .pv (.bool (decide (i5 < (a1.length : Int)))))] [] ?_ ?_
    · simp -implicitDefEqProofs only [RUNS, qindex, Nat.reduceAdd, Nat.reduceLeDiff, Nat.reduceSub, reduceIte, Nat.reduceEqDiff, Nat.reduceLT, reduceCtorEq, Nat.reduceMul, if_true, if_false, eq_self, ne_eq, env_bT, T_3, T_23, T_43, NsOp.pv_eq, Word.pv_eq, Chan.pv_eq, Target.pv_eq, P38_eq, Mount.pv_eq, P31_eq, Ns.pv_eq, eqT_3]
    refine AW.cond (b := decide (i5 < (a1.length : Int))) rfl (fun hb9 => ?_) (fun hb9 => ?_)
    · replace h := bif_t hb9 h
      refine AW.skip ?_
      refine AW.seq ?_
      refine AW.block ?_
      refine AW.seq ?_
      replace h := Option.bind_eq_some_iff.1 h; obtain ⟨u10, q11, h⟩ := h
      have f12 := lidx_f q11
      replace h := Option.bind_eq_some_iff.1 h; obtain ⟨u13, q14, h⟩ := h
      have f15 := lidx_f q14
      refine AW.dreg mixed hS (hpf ▸ (by kernel_rfl : orderOK pfn _ = true)) [(0, .pv (.slice (List.map NsOp.pv a1))), (1, .pv (.slice (List.map NsOp.pv b2))), (5, .pv (.int .i64 i5)), (25, .pv (.bool (!(decide (u10.kind_ = u13.kind_) && (decide (u10.flag_ = u13.flag_) && (decide (u10.new_ = u13.new_) && (decide (u10.old_ = u13.old_))))))))] [] ?_ ?_
      · simp -implicitDefEqProofs only [RUNS, qindex, Nat.reduceAdd, Nat.reduceLeDiff, Nat.reduceSub, reduceIte, Nat.reduceEqDiff, Nat.reduceLT, reduceCtorEq, Nat.reduceMul, if_true, if_false, eq_self, ne_eq, env_bT, T_23, T_43, NsOp.pv_eq, Word.pv_eq, Chan.pv_eq, Target.pv_eq, P38_eq, Mount.pv_eq, P31_eq, Ns.pv_eq, f12.1, f12.2.1, f15.1, f15.2.1, eqT_23]
      refine AW.cond (b := !(decide (u10.kind_ = u13.kind_) && (decide (u10.flag_ = u13.flag_) && (decide (u10.new_ = u13.new_) && (decide (u10.old_ = u13.old_)))))) rfl (fun hb16 => ?_) (fun hb16 => ?_)
      · replace h := bif_t hb16 h
        refine AW.seq ?_
        refine AW.reg hS [(4, .pv (.bool false))] [] ?_ ?_
        · simp -implicitDefEqProofs only [RUNS, qindex, Nat.reduceAdd, Nat.reduceLeDiff, Nat.reduceSub, reduceIte, Nat.reduceEqDiff, Nat.reduceLT, reduceCtorEq, Nat.reduceMul, if_true, if_false, eq_self, ne_eq, env_bT, NsOp.pv_eq, Word.pv_eq, Chan.pv_eq, Target.pv_eq, P38_eq, Mount.pv_eq, P31_eq, Ns.pv_eq]
        refine AW.ret ?_
        cases h
        show finish _ _ _ _ _ = _
        first | rfl | (simp [finish, resOf, renArgs, toPV, selObjs, sl])
      · replace h := bif_f hb16 h
        refine AW.skip ?_
        refine AW.reg hS [(0, .pv (.slice (List.map NsOp.pv a1))), (1, .pv (.slice (List.map NsOp.pv b2))), (5, .pv (.int .i64 (IntKind.wrap .i64 (i5 + 1))))] [] ?_ ?_
        · simp -implicitDefEqProofs only [RUNS, qindex, Nat.reduceAdd, Nat.reduceLeDiff, Nat.reduceSub, reduceIte, Nat.reduceEqDiff, Nat.reduceLT, reduceCtorEq, Nat.reduceMul, if_true, if_false, eq_self, ne_eq, env_bT, T_3, NsOp.pv_eq, Word.pv_eq, Chan.pv_eq, Target.pv_eq, P38_eq, Mount.pv_eq, P31_eq, Ns.pv_eq, eqT_3]
        exact ⟨(m8, IntKind.wrap .i64 (i5 + 1)), h, (Weak.norm (m := 0) (Nat.le_of_ble_eq_true rfl) ⟨rfl, rfl, rfl, trivial⟩ rfl rfl rfl), Nat.lt_succ_self _⟩
    · replace h := bif_f hb9 h
      refine AW.exit ?_
      refine AW.seq ?_
      refine AW.reg hS [(4, .pv (.bool true))] [] ?_ ?_
      · simp -implicitDefEqProofs only [RUNS, qindex, Nat.reduceAdd, Nat.reduceLeDiff, Nat.reduceSub, reduceIte, Nat.reduceEqDiff, Nat.reduceLT, reduceCtorEq, Nat.reduceMul, if_true, if_false, eq_self, ne_eq, env_bT, NsOp.pv_eq, Word.pv_eq, Chan.pv_eq, Target.pv_eq, P38_eq, Mount.pv_eq, P31_eq, Ns.pv_eq]
      refine AW.ret ?_
      cases h
      show finish _ _ _ _ _ = _
      first | rfl | (simp [finish, resOf, renArgs, toPV, selObjs, sl])

set_option maxHeartbeats 4000000 in
theorem g_F7 {O : Orc} (hS : Sound env O) (hpf : O.pf = pfn) (c_F9 : C_F9 O) (c_F8 : C_F8 O) (c_F19 : C_F19 O) (c_F10 : C_F10 O) (c_F20 : C_F20 O) (c_F17 : C_F17 O) (c_F16 : C_F16 O) (c_F21 : C_F21 O) (l1 : List NsOp) (r2 : Bool) (h : F7 l1 = some r2) : Good env 7 [.pv (.slice (List.map NsOp.pv l1))] [] [.pv (.bool r2)] [] := by
  have pf_8 : O.pf 8 = true := by rw [hpf]; rfl
  have pf_9 : O.pf 9 = true := by rw [hpf]; rfl
  have pf_10 : O.pf 10 = true := by rw [hpf]; rfl
  have pf_16 : O.pf 16 = true := by rw [hpf]; rfl
  have pf_17 : O.pf 17 = true := by rw [hpf]; rfl
  have pf_19 : O.pf 19 = true := by rw [hpf]; rfl
  have pf_20 : O.pf 20 = true := by rw [hpf]; rfl
  have pf_21 : O.pf 21 = true := by rw [hpf]; rfl
  refine Good.start (fn := Tryd.f7) (N := 100) rfl rfl rfl (by simp) [] _ rfl rfl ?_
  rw [F7] at h
  refine AW.seq ?_
  refine AW.reg hS [(0, .pv (.slice (List.map NsOp.pv l1)))] [] ?_ ?_
  · simp -implicitDefEqProofs only [RUNS, qindex, Nat.reduceAdd, Nat.reduceLeDiff, Nat.reduceSub, reduceIte, Nat.reduceEqDiff, Nat.reduceLT, reduceCtorEq, Nat.reduceMul, if_true, if_false, eq_self, ne_eq, env_bT, NsOp.pv_eq, Word.pv_eq, Chan.pv_eq, Target.pv_eq, P38_eq, Mount.pv_eq, P31_eq, Ns.pv_eq]
  refine AW.seq ?_
  refine AW.seq ?_
  refine AW.reg hS [(0, .pv (.slice (List.map NsOp.pv l1))), (15, .pv (.bool (decide (50 < (l1.length : Int)))))] [] ?_ ?_
  · simp -implicitDefEqProofs only [RUNS, qindex, Nat.reduceAdd, Nat.reduceLeDiff, Nat.reduceSub, reduceIte, Nat.reduceEqDiff, Nat.reduceLT, reduceCtorEq, Nat.reduceMul, if_true, if_false, eq_self, ne_eq, env_bT, T_3, T_23, T_43, NsOp.pv_eq, Word.pv_eq, Chan.pv_eq, Target.pv_eq, P38_eq, Mount.pv_eq, P31_eq, Ns.pv_eq, eqT_3]
  refine AW.cond (b := decide (50 < (l1.length : Int))) rfl (fun hb3 => ?_) (fun hb3 => ?_)
  · replace h := bif_t hb3 h
    refine AW.seq ?_
    replace h := Option.bind_eq_some_iff.1 h; obtain ⟨r4, q5, h⟩ := h
    have f6 := c_F9 r4 q5
    try dsimp only at f6
    refine AW.reg hS [(2, .pv (.bool r4))] [] ?_ ?_
    · simp -implicitDefEqProofs only [RUNS, qindex, Nat.reduceAdd, Nat.reduceLeDiff, Nat.reduceSub, reduceIte, Nat.reduceEqDiff, Nat.reduceLT, reduceCtorEq, Nat.reduceMul, if_true, if_false, eq_self, ne_eq, env_bT, NsOp.pv_eq, Word.pv_eq, Chan.pv_eq, Target.pv_eq, P38_eq, Mount.pv_eq, P31_eq, Ns.pv_eq, pf_9, f6]
    refine AW.ret ?_
    cases h
    show finish _ _ _ _ _ = _
    first | rfl | (simp [finish, resOf, renArgs, toPV, selObjs, sl])
  · replace h := bif_f hb3 h
    refine AW.skip ?_
    refine AW.seq ?_
    refine AW.seq ?_
    refine AW.reg hS [(0, .pv (.slice (List.map NsOp.pv l1))), (18, .pv (.int .i64 (l1.length : Int))), (19, .pv (.int .i64 0))] [] ?_ ?_
    · simp -implicitDefEqProofs only [RUNS, qindex, Nat.reduceAdd, Nat.reduceLeDiff, Nat.reduceSub, reduceIte, Nat.reduceEqDiff, Nat.reduceLT, reduceCtorEq, Nat.reduceMul, if_true, if_false, eq_self, ne_eq, env_bT, T_23, T_43, NsOp.pv_eq, Word.pv_eq, Chan.pv_eq, Target.pv_eq, P38_eq, Mount.pv_eq, P31_eq, Ns.pv_eq]
    refine AW.block ?_
    refine AW.weak (Weak.slots (L := [(0, .pv (.slice (List.map NsOp.pv l1))), (18, .pv (.int .i64 (l1.length : Int))), (19, .pv (.int .i64 0))]) ⟨rfl, rfl, rfl, trivial⟩) ?_
    refine AW.loopI (α := Nat × Int) (fun (_, i7) => ⟨sl [(0, .pv (.slice (List.map NsOp.pv l1))), (18, .pv (.int .i64 (l1.length : Int))), (19, .pv (.int .i64 i7))], 100, []⟩) (fun x => iter (F7_b1 l1) x.1 x.2 = some r2) (fun x => x.1) (BIG, 0) h ?_
    clear h
    intro ⟨n54, i7⟩ h
    replace h := iter_some h; obtain ⟨m10, rfl, h⟩ := h
    rw [F7_b1] at h
    try dsimp only at h
    show AW _ _ _ _ ⟨sl [(0, .pv (.slice (List.map NsOp.pv l1))), (18, .pv (.int .i64 (l1.length : Int))), (19, .pv (.int .i64 i7))], 100, []⟩
    refine AW.seq ?_
    refine AW.reg hS [(0, .pv (.slice (List.map NsOp.pv l1))), (18, .pv (.int .i64 (l1.length : Int))), (19, .pv (.int .i64 i7)), (20, .pv (.bool (decide (i7 < (l1.length : Int)))))] [] ?_ ?_
    · simp -implicitDefEqProofs only [RUNS, qindex, Nat.reduceAdd, Nat.reduceLeDiff, Nat.reduceSub, reduceIte, Nat.reduceEqDiff, Nat.reduceLT, reduceCtorEq, Nat.reduceMul, if_true, if_false, eq_self, ne_eq, env_bT, T_3, NsOp.pv_eq, Word.pv_eq, Chan.pv_eq, Target.pv_eq, P38_eq, Mount.pv_eq, P31_eq, Ns.pv_eq, eqT_3]
    refine AW.seq ?_
    refine AW.cond (b := decide (i7 < (l1.length : Int))) rfl (fun hb11 => ?_) (fun hb11 => ?_)
    · replace h := bif_t hb11 h
      refine AW.skip ?_
      refine AW.seq ?_
      refine AW.block ?_
      refine AW.seq ?_
      refine AW.reg hS [(0, .pv (.slice (List.map NsOp.pv l1))), (3, .pv (.int .i64 i7)), (18, .pv (.int .i64 (l1.length : Int))), (19, .pv (.int .i64 i7))] [] ?_ ?_
      · simp -implicitDefEqProofs only [RUNS, qindex, Nat.reduceAdd, Nat.reduceLeDiff, Nat.reduceSub, reduceIte, Nat.reduceEqDiff, Nat.reduceLT, reduceCtorEq, Nat.reduceMul, if_true, if_false, eq_self, ne_eq, env_bT, NsOp.pv_eq, Word.pv_eq, Chan.pv_eq, Target.pv_eq, P38_eq, Mount.pv_eq, P31_eq, Ns.pv_eq]
      refine AW.seq ?_
      refine AW.seq ?_
      replace h := Option.bind_eq_some_iff.1 h; obtain ⟨u12, q13, h⟩ := h
      have f14 := lidx_f q13
      replace h := Option.bind_eq_some_iff.1 h; obtain ⟨r15, q16, h⟩ := h
      have f17 := c_F8 u12 r15 q16
      try dsimp only at f17
      replace h := Option.bind_eq_some_iff.1 h; obtain ⟨r18, q19, h⟩ := h
      have f20 := fun hg => c_F19 u12 r18 (guardO_t q19 hg)
      try dsimp only at f20
      refine AW.reg hS [(0, .pv (.slice (List.map NsOp.pv l1))), (3, .pv (.int .i64 i7)), (18, .pv (.int .i64 (l1.length : Int))), (19, .pv (.int .i64 i7)), (35, .pv (.bool (!r15 || !r18)))] [] ?_ ?_
      · clear h
        (simp -implicitDefEqProofs only [RUNS, qindex, Nat.reduceAdd, Nat.reduceLeDiff, Nat.reduceSub, reduceIte, Nat.reduceEqDiff, Nat.reduceLT, reduceCtorEq, Nat.reduceMul, if_true, if_false, eq_self, ne_eq, env_bT, T_23, T_43, NsOp.pv_eq, Word.pv_eq, Chan.pv_eq, Target.pv_eq, P38_eq, Mount.pv_eq, P31_eq, Ns.pv_eq, f14.1, f14.2.1, pf_8, f17, pf_19, f20]); repeat' (split <;> rename_i hb <;> (try simp only [HBS, ge_iff_le, gt_iff_lt] at hb) <;> simp -implicitDefEqProofs only [RUNS, qindex, Nat.reduceAdd, Nat.reduceLeDiff, Nat.reduceSub, reduceIte, Nat.reduceEqDiff, Nat.reduceLT, reduceCtorEq, Nat.reduceMul, if_true, if_false, eq_self, ne_eq, env_bT, T_23, T_43, NsOp.pv_eq, Word.pv_eq, Chan.pv_eq, Target.pv_eq, P38_eq, Mount.pv_eq, P31_eq, Ns.pv_eq, f14.1, f14.2.1, pf_8, f17, pf_19, f20, *, decide_true, decide_false, Decidable.not_not, not_false_eq_true, not_true_eq_false])
        all_goals (first | (simp only [BOOLS]; done) | (simp [*]; done) | ((try simp only [CLOS, beq_iff_eq, bne_iff_ne, ne_eq] at *) <;> omega) | (simp_all; done) | (simp_all <;> omega))
      refine AW.cond (b := (!r15 || !r18)) rfl (fun hb21 => ?_) (fun hb21 => ?_)
      · replace h := bif_t hb21 h
        refine AW.seq ?_
        replace h := Option.bind_eq_some_iff.1 h; obtain ⟨r22, q23, h⟩ := h
        have f24 := c_F9 r22 q23
        try dsimp only at f24
        refine AW.reg hS [(2, .pv (.bool r22))] [] ?_ ?_
        · simp -implicitDefEqProofs only [RUNS, qindex, Nat.reduceAdd, Nat.reduceLeDiff, Nat.reduceSub, reduceIte, Nat.reduceEqDiff, Nat.reduceLT, reduceCtorEq, Nat.reduceMul, if_true, if_false, eq_self, ne_eq, env_bT, NsOp.pv_eq, Word.pv_eq, Chan.pv_eq, Target.pv_eq, P38_eq, Mount.pv_eq, P31_eq, Ns.pv_eq, pf_9, f24]
        refine AW.ret ?_
        cases h
        show finish _ _ _ _ _ = _
        first | rfl | (simp [finish, resOf, renArgs, toPV, selObjs, sl])
      · replace h := bif_f hb21 h
        refine AW.skip ?_
        refine AW.seq ?_
        replace h := Option.bind_eq_some_iff.1 h; obtain ⟨⟨r25, r26⟩, q27, h⟩ := h
        dsimp only at h
        have f28 := c_F10 u12 r25 r26 q27
        try dsimp only at f28
        refine AW.reg hS [(0, .pv (.slice (List.map NsOp.pv l1))), (3, .pv (.int .i64 i7)), (4, .pv (.str r25)), (5, .pv (.int .i64 r26)), (18, .pv (.int .i64 (l1.length : Int))), (19, .pv (.int .i64 i7))] [] ?_ ?_
        · simp -implicitDefEqProofs only [RUNS, qindex, Nat.reduceAdd, Nat.reduceLeDiff, Nat.reduceSub, reduceIte, Nat.reduceEqDiff, Nat.reduceLT, reduceCtorEq, Nat.reduceMul, if_true, if_false, eq_self, ne_eq, env_bT, T_23, T_43, NsOp.pv_eq, Word.pv_eq, Chan.pv_eq, Target.pv_eq, P38_eq, Mount.pv_eq, P31_eq, Ns.pv_eq, f14.1, f14.2.1, pf_10, f28]
        refine AW.seq ?_
        replace h := Option.bind_eq_some_iff.1 h; obtain ⟨⟨r29, r30⟩, q31, h⟩ := h
        dsimp only at h
        have f32 := c_F20 r25 r29 r30 q31
        try dsimp only at f32
        refine AW.reg hS [(0, .pv (.slice (List.map NsOp.pv l1))), (3, .pv (.int .i64 i7)), (5, .pv (.int .i64 r26)), (6, .ref 0 0), (7, .pv (.int .i64 r30)), (18, .pv (.int .i64 (l1.length : Int))), (19, .pv (.int .i64 i7))] [.var [.pv (.int .i64 r29.kind_), .pv (.int .i64 r29.flag_), .pv (.str r29.new_), .pv (.str r29.old_)]] ?_ ?_
        · simp -implicitDefEqProofs only [RUNS, qindex, Nat.reduceAdd, Nat.reduceLeDiff, Nat.reduceSub, reduceIte, Nat.reduceEqDiff, Nat.reduceLT, reduceCtorEq, Nat.reduceMul, if_true, if_false, eq_self, ne_eq, env_bT, T_9, T_23, NsOp.pv_eq, Word.pv_eq, Chan.pv_eq, Target.pv_eq, P38_eq, Mount.pv_eq, P31_eq, Ns.pv_eq, pf_20, f32]
        refine AW.seq ?_
        refine AW.dreg mixed hS (hpf ▸ (by kernel_rfl : orderOK pfn _ = true)) [(0, .pv (.slice (List.map NsOp.pv l1))), (18, .pv (.int .i64 (l1.length : Int))), (19, .pv (.int .i64 i7)), (63, .pv (.bool ((!decide (r26 = 0) || !decide (r30 = 0)) || !(decide (r29.kind_ = u12.kind_) && (decide (r29.flag_ = u12.flag_) && (decide (r29.new_ = u12.new_) && (decide (r29.old_ = u12.old_))))))))] [.var [.pv (.int .i64 r29.kind_), .pv (.int .i64 r29.flag_), .pv (.str r29.new_), .pv (.str r29.old_)]] ?_ ?_
        · clear h
          (simp -implicitDefEqProofs only [RUNS, qindex, Nat.reduceAdd, Nat.reduceLeDiff, Nat.reduceSub, reduceIte, Nat.reduceEqDiff, Nat.reduceLT, reduceCtorEq, Nat.reduceMul, if_true, if_false, eq_self, ne_eq, env_bT, T_23, T_26, T_43, NsOp.pv_eq, Word.pv_eq, Chan.pv_eq, Target.pv_eq, P38_eq, Mount.pv_eq, P31_eq, Ns.pv_eq, eqT_26, f14.1, f14.2.1, eqT_23]); repeat' (split <;> rename_i hb <;> (try simp only [HBS, ge_iff_le, gt_iff_lt] at hb) <;> simp -implicitDefEqProofs only [RUNS, qindex, Nat.reduceAdd, Nat.reduceLeDiff, Nat.reduceSub, reduceIte, Nat.reduceEqDiff, Nat.reduceLT, reduceCtorEq, Nat.reduceMul, if_true, if_false, eq_self, ne_eq, env_bT, T_23, T_26, T_43, NsOp.pv_eq, Word.pv_eq, Chan.pv_eq, Target.pv_eq, P38_eq, Mount.pv_eq, P31_eq, Ns.pv_eq, eqT_26, f14.1, f14.2.1, eqT_23, *, decide_true, decide_false, Decidable.not_not, not_false_eq_true, not_true_eq_false])
          all_goals (first | (simp only [BOOLS]; done) | (simp [*]; done) | ((try simp only [CLOS, beq_iff_eq, bne_iff_ne, ne_eq] at *) <;> omega) | (simp_all; done) | (simp_all <;> omega))
        refine AW.cond (b := ((!decide (r26 = 0) || !decide (r30 = 0)) || !(decide (r29.kind_ = u12.kind_) && (decide (r29.flag_ = u12.flag_) && (decide (r29.new_ = u12.new_) && (decide (r29.old_ = u12.old_))))))) rfl (fun hb33 => ?_) (fun hb33 => ?_)
        · replace h := bif_t hb33 h
          refine AW.seq ?_
          refine AW.reg hS [(2, .pv (.bool false))] [.var [.pv (.int .i64 r29.kind_), .pv (.int .i64 r29.flag_), .pv (.str r29.new_), .pv (.str r29.old_)]] ?_ ?_
          · simp -implicitDefEqProofs only [RUNS, qindex, Nat.reduceAdd, Nat.reduceLeDiff, Nat.reduceSub, reduceIte, Nat.reduceEqDiff, Nat.reduceLT, reduceCtorEq, Nat.reduceMul, if_true, if_false, eq_self, ne_eq, env_bT, NsOp.pv_eq, Word.pv_eq, Chan.pv_eq, Target.pv_eq, P38_eq, Mount.pv_eq, P31_eq, Ns.pv_eq]
          refine AW.ret ?_
          cases h
          show finish _ _ _ _ _ = _
          first | rfl | (simp [finish, resOf, renArgs, toPV, selObjs, sl])
        · replace h := bif_f hb33 h
          refine AW.skip ?_
          refine AW.reg hS [(0, .pv (.slice (List.map NsOp.pv l1))), (18, .pv (.int .i64 (l1.length : Int))), (19, .pv (.int .i64 (IntKind.wrap .i64 (i7 + 1))))] [.var [.pv (.int .i64 r29.kind_), .pv (.int .i64 r29.flag_), .pv (.str r29.new_), .pv (.str r29.old_)]] ?_ ?_
          · simp -implicitDefEqProofs only [RUNS, qindex, Nat.reduceAdd, Nat.reduceLeDiff, Nat.reduceSub, reduceIte, Nat.reduceEqDiff, Nat.reduceLT, reduceCtorEq, Nat.reduceMul, if_true, if_false, eq_self, ne_eq, env_bT, T_3, NsOp.pv_eq, Word.pv_eq, Chan.pv_eq, Target.pv_eq, P38_eq, Mount.pv_eq, P31_eq, Ns.pv_eq, eqT_3]
          exact ⟨(m10, IntKind.wrap .i64 (i7 + 1)), h, (Weak.norm (m := 0) (Nat.le_of_ble_eq_true rfl) ⟨rfl, rfl, rfl, trivial⟩ rfl rfl rfl), Nat.lt_succ_self _⟩
    · replace h := bif_f hb11 h
      refine AW.exit ?_
      refine AW.seq ?_
      replace h := Option.bind_eq_some_iff.1 h; obtain ⟨⟨r34, r35⟩, q36, h⟩ := h
      dsimp only at h
      have f37 := c_F17 l1 r34 r35 q36
      try dsimp only at f37
      refine AW.reg hS [(0, .pv (.slice (List.map NsOp.pv l1))), (8, .pv (.str r34)), (9, .pv (.int .i64 r35))] [] ?_ ?_
      · simp -implicitDefEqProofs only [RUNS, qindex, Nat.reduceAdd, Nat.reduceLeDiff, Nat.reduceSub, reduceIte, Nat.reduceEqDiff, Nat.reduceLT, reduceCtorEq, Nat.reduceMul, if_true, if_false, eq_self, ne_eq, env_bT, T_23, T_43, NsOp.pv_eq, Word.pv_eq, Chan.pv_eq, Target.pv_eq, P38_eq, Mount.pv_eq, P31_eq, Ns.pv_eq, pf_17, f37]
      refine AW.seq ?_
      refine AW.seq ?_
      refine AW.reg hS [(0, .pv (.slice (List.map NsOp.pv l1))), (8, .pv (.str r34)), (71, .pv (.bool (!decide (r35 = 0))))] [] ?_ ?_
      · simp -implicitDefEqProofs only [RUNS, qindex, Nat.reduceAdd, Nat.reduceLeDiff, Nat.reduceSub, reduceIte, Nat.reduceEqDiff, Nat.reduceLT, reduceCtorEq, Nat.reduceMul, if_true, if_false, eq_self, ne_eq, env_bT, T_26, NsOp.pv_eq, Word.pv_eq, Chan.pv_eq, Target.pv_eq, P38_eq, Mount.pv_eq, P31_eq, Ns.pv_eq, eqT_26]
      refine AW.cond (b := !decide (r35 = 0)) rfl (fun hb38 => ?_) (fun hb38 => ?_)
      · replace h := bif_t hb38 h
        refine AW.seq ?_
        refine AW.reg hS [(2, .pv (.bool false))] [] ?_ ?_
        · simp -implicitDefEqProofs only [RUNS, qindex, Nat.reduceAdd, Nat.reduceLeDiff, Nat.reduceSub, reduceIte, Nat.reduceEqDiff, Nat.reduceLT, reduceCtorEq, Nat.reduceMul, if_true, if_false, eq_self, ne_eq, env_bT, NsOp.pv_eq, Word.pv_eq, Chan.pv_eq, Target.pv_eq, P38_eq, Mount.pv_eq, P31_eq, Ns.pv_eq]
        refine AW.ret ?_
        cases h
        show finish _ _ _ _ _ = _
        first | rfl | (simp [finish, resOf, renArgs, toPV, selObjs, sl])
      · replace h := bif_f hb38 h
        refine AW.skip ?_
        refine AW.seq ?_
        replace h := Option.bind_eq_some_iff.1 h; obtain ⟨⟨r39, r40, r41⟩, q42, h⟩ := h
        dsimp only at h
        have f43 := c_F16 r34 r39 r40 r41 q42
        try dsimp only at f43
        refine AW.reg hS [(0, .pv (.slice (List.map NsOp.pv l1))), (8, .pv (.str r34)), (10, .pv (.slice (List.map NsOp.pv r39))), (11, .pv (.int .i64 r40)), (12, .pv (.int .i64 r41))] [] ?_ ?_
        · simp -implicitDefEqProofs only [RUNS, qindex, Nat.reduceAdd, Nat.reduceLeDiff, Nat.reduceSub, reduceIte, Nat.reduceEqDiff, Nat.reduceLT, reduceCtorEq, Nat.reduceMul, if_true, if_false, eq_self, ne_eq, env_bT, T_9, NsOp.pv_eq, Word.pv_eq, Chan.pv_eq, Target.pv_eq, P38_eq, Mount.pv_eq, P31_eq, Ns.pv_eq, pf_16, f43]
        refine AW.seq ?_
        refine AW.seq ?_
        refine AW.reg hS [(0, .pv (.slice (List.map NsOp.pv l1))), (10, .pv (.slice (List.map NsOp.pv r39))), (11, .pv (.int .i64 r40)), (12, .pv (.int .i64 r41)), (80, .pv (.bool (decide (65536 < (r34.length : Int)))))] [] ?_ ?_
        · simp -implicitDefEqProofs only [RUNS, qindex, Nat.reduceAdd, Nat.reduceLeDiff, Nat.reduceSub, reduceIte, Nat.reduceEqDiff, Nat.reduceLT, reduceCtorEq, Nat.reduceMul, if_true, if_false, eq_self, ne_eq, env_bT, T_3, T_9, NsOp.pv_eq, Word.pv_eq, Chan.pv_eq, Target.pv_eq, P38_eq, Mount.pv_eq, P31_eq, Ns.pv_eq, eqT_3]
        refine AW.cond (b := decide (65536 < (r34.length : Int))) rfl (fun hb44 => ?_) (fun hb44 => ?_)
        · replace h := bif_t hb44 h
          refine AW.seq ?_
          replace h := Option.bind_eq_some_iff.1 h; obtain ⟨r45, q46, h⟩ := h
          have f47 := fun hg => c_F9 r45 (guardO_t q46 hg)
          try dsimp only at f47
          refine AW.reg hS [(2, .pv (.bool (decide (r41 = 4) && r45)))] [] ?_ ?_
          · clear h
            (simp -implicitDefEqProofs only [RUNS, qindex, Nat.reduceAdd, Nat.reduceLeDiff, Nat.reduceSub, reduceIte, Nat.reduceEqDiff, Nat.reduceLT, reduceCtorEq, Nat.reduceMul, if_true, if_false, eq_self, ne_eq, env_bT, T_26, NsOp.pv_eq, Word.pv_eq, Chan.pv_eq, Target.pv_eq, P38_eq, Mount.pv_eq, P31_eq, Ns.pv_eq, eqT_26, pf_9, f47]); repeat' (split <;> rename_i hb <;> (try simp only [HBS, ge_iff_le, gt_iff_lt] at hb) <;> simp -implicitDefEqProofs only [RUNS, qindex, Nat.reduceAdd, Nat.reduceLeDiff, Nat.reduceSub, reduceIte, Nat.reduceEqDiff, Nat.reduceLT, reduceCtorEq, Nat.reduceMul, if_true, if_false, eq_self, ne_eq, env_bT, T_26, NsOp.pv_eq, Word.pv_eq, Chan.pv_eq, Target.pv_eq, P38_eq, Mount.pv_eq, P31_eq, Ns.pv_eq, eqT_26, pf_9, f47, *, decide_true, decide_false, Decidable.not_not, not_false_eq_true, not_true_eq_false])
            all_goals (first | (simp only [BOOLS]; done) | (simp [*]; done) | ((try simp only [CLOS, beq_iff_eq, bne_iff_ne, ne_eq] at *) <;> omega) | (simp_all; done) | (simp_all <;> omega))
          refine AW.ret ?_
          cases h
          show finish _ _ _ _ _ = _
          first | rfl | (simp [finish, resOf, renArgs, toPV, selObjs, sl])
        · replace h := bif_f hb44 h
          refine AW.skip ?_
          refine AW.seq ?_
          replace h := Option.bind_eq_some_iff.1 h; obtain ⟨r48, q49, h⟩ := h
          have f50 := fun hg => c_F21 l1 r39 r48 (guardO_t q49 hg)
          try dsimp only at f50
          replace h := Option.bind_eq_some_iff.1 h; obtain ⟨r51, q52, h⟩ := h
          have f53 := fun hg => c_F9 r51 (guardO_t q52 hg)
          try dsimp only at f53
          refine AW.reg hS [(2, .pv (.bool (((decide (r41 = 0) && decide (r40 = 0)) && r48) && r51)))] [] ?_ ?_
          · clear h
            (simp -implicitDefEqProofs only [RUNS, qindex, Nat.reduceAdd, Nat.reduceLeDiff, Nat.reduceSub, reduceIte, Nat.reduceEqDiff, Nat.reduceLT, reduceCtorEq, Nat.reduceMul, if_true, if_false, eq_self, ne_eq, env_bT, T_3, T_23, T_26, T_43, NsOp.pv_eq, Word.pv_eq, Chan.pv_eq, Target.pv_eq, P38_eq, Mount.pv_eq, P31_eq, Ns.pv_eq, eqT_26, eqT_3, pf_21, f50, pf_9, f53]); repeat' (split <;> rename_i hb <;> (try simp only [HBS, ge_iff_le, gt_iff_lt] at hb) <;> simp -implicitDefEqProofs only [RUNS, qindex, Nat.reduceAdd, Nat.reduceLeDiff, Nat.reduceSub, reduceIte, Nat.reduceEqDiff, Nat.reduceLT, reduceCtorEq, Nat.reduceMul, if_true, if_false, eq_self, ne_eq, env_bT, T_3, T_23, T_26, T_43, NsOp.pv_eq, Word.pv_eq, Chan.pv_eq, Target.pv_eq, P38_eq, Mount.pv_eq, P31_eq, Ns.pv_eq, eqT_26, eqT_3, pf_21, f50, pf_9, f53, *, decide_true, decide_false, Decidable.not_not, not_false_eq_true, not_true_eq_false])
            all_goals (first | (simp only [BOOLS]; done) | (simp [*]; done) | ((try simp only [CLOS, beq_iff_eq, bne_iff_ne, ne_eq] at *) <;> omega) | (simp_all; done) | (simp_all <;> omega))
          refine AW.ret ?_
          cases h
          show finish _ _ _ _ _ = _
          first | rfl | (simp [finish, resOf, renArgs, toPV, selObjs, sl])

end Go.Abs.U45
