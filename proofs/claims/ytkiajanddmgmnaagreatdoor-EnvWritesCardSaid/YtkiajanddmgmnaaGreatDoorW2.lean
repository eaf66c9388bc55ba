/- The layer 29 laws: the functions walked. -/
import Derived.Test.YtkiajanddmgmnaaGreatDoorD1
set_option linter.unusedVariables false
set_option linter.unusedSimpArgs false
set_option maxRecDepth 8000
namespace Go.Abs.U2Z
open Go.RowKit Go.Proofs

set_option maxHeartbeats 4000000 in
theorem g_F67 {O : Orc} (hS : Sound env O) (hpf : O.pf = pfn) (c_F84 : C_F84 O) (s1 : List Str) (r2 : Bool) (h : F67 s1 = some r2) : Good env 67 [.pv (.slice (List.map PV.str s1)), .fn 68 []] [] [.pv (.bool r2)] [] := by
  have pf_84 : O.pf 84 = false := by rw [hpf]; rfl
  refine Good.start (fn := Tryz.f67) (N := 9) fn_67 rfl rfl (by simp) [] _ rfl rfl ?_
  rw [F67] at h
  refine AW.seq ?_
  refine AW.reg hS [(0, .pv (.slice (List.map PV.str s1))), (1, .fn 68 [])] [] ?_ ?_
  · exact dk
  refine AW.seq ?_
  replace h := obs h; obtain ⟨r3, q4, h⟩ := h
  have f5 := c_F84 s1 r3 q4
  try dsimp only at f5
  have e6 : ecall O [] 84 [.pv (.slice (List.map PV.str s1)), .fn 68 []] = some (retAV [.pv (.int .i64 r3)], []) := ecall_eq rfl rfl rfl f5 rfl rfl rfl
  refine AW.reg hS [(4, .pv (.bool (decide (0 ≤ r3))))] [] ?_ ?_
  · exact dk1 (an pf_84 e6)
  refine AW.ret ?_
  cases h
  exact fin

set_option maxHeartbeats 4000000 in
theorem g_F39 {O : Orc} (hS : Sound env O) (hpf : O.pf = pfn) (c_F67 : C_F67 O) (c_L_Join : C_L_Join O) (values1 : List Str) (r2 : Str) (r3 : Int) (h : F39 values1 = some (r2, r3)) : Good env 39 [.pv (.slice (List.map PV.str values1))] [] [.pv (.str r2), .pv (.int .i64 r3)] [] := by
  have pf_67 : O.pf 67 = false := by rw [hpf]; rfl
  have pf_70 : O.pf 70 = true := by rw [hpf]; rfl
  refine Good.start (fn := Tryz.f39) (N := 36) fn_39 rfl rfl (by simp) [] _ rfl rfl ?_
  rw [F39] at h
  refine AW.seq ?_
  refine AW.reg hS [(0, .pv (.slice (List.map PV.str values1)))] [] ?_ ?_
  · exact dk
  refine AW.seq ?_
  refine AW.block ?_
  refine AW.seq ?_
  refine AW.reg hS [(0, .pv (.slice (List.map PV.str values1))), (7, .pv (.bool (decide ((values1.length : Int) = 0))))] [] ?_ ?_
  · exact dk
  refine AW.cond (b := decide ((values1.length : Int) = 0)) rfl (fun hb4 => ?_) (fun hb4 => ?_)
  · replace h := bif_t hb4 h
    refine AW.seq ?_
    refine AW.reg hS [(2, .pv (.str [])), (3, .pv (.int .i64 1))] [] ?_ ?_
    · exact dk
    refine AW.ret ?_
    cases h
    exact fin
  · replace h := bif_f hb4 h
    refine AW.seq ?_
    refine AW.reg hS [(0, .pv (.slice (List.map PV.str values1))), (11, .pv (.bool (decide (256 < (values1.length : Int)))))] [] ?_ ?_
    · exact dk
    refine AW.cond (b := decide (256 < (values1.length : Int))) rfl (fun hb5 => ?_) (fun hb5 => ?_)
    · replace h := bif_t hb5 h
      refine AW.seq ?_
      refine AW.reg hS [(2, .pv (.str [])), (3, .pv (.int .i64 22))] [] ?_ ?_
      · exact dk
      refine AW.ret ?_
      cases h
      exact fin
    · replace h := bif_f hb5 h
      refine AW.seq ?_
      replace h := obs h; obtain ⟨r6, q7, h⟩ := h
      have f8 := c_F67 values1 r6 q7
      try dsimp only at f8
      have e9 : ecall O [] 67 [.pv (.slice (List.map PV.str values1)), .fn 68 []] = some (retAV [.pv (.bool r6)], []) := ecall_eq rfl rfl rfl f8 rfl rfl rfl
      refine AW.reg hS [(0, .pv (.slice (List.map PV.str values1))), (15, .pv (.bool r6))] [] ?_ ?_
      · exact dk1 (an pf_67 e9)
      refine AW.cond (b := r6) rfl (fun hb10 => ?_) (fun hb10 => ?_)
      · replace h := bif_t hb10 h
        refine AW.seq ?_
        refine AW.reg hS [(2, .pv (.str [])), (3, .pv (.int .i64 2))] [] ?_ ?_
        · exact dk
        refine AW.ret ?_
        cases h
        exact fin
      · replace h := bif_f hb10 h
        refine AW.skip ?_
        refine AW.seq ?_
        refine AW.reg hS [(0, .pv (.slice (List.map PV.str values1))), (4, .pv (.int .i64 (IntKind.wrap .i64 ((values1.length : Int) - 1))))] [] ?_ ?_
        · exact dk
        refine AW.seq ?_
        refine AW.seq ?_
        refine AW.reg hS [(0, .pv (.slice (List.map PV.str values1))), (4, .pv (.int .i64 (IntKind.wrap .i64 ((values1.length : Int) - 1)))), (21, .pv (.slice (List.map PV.str values1))), (22, .pv (.int .i64 (values1.length : Int))), (23, .pv (.int .i64 0))] [] ?_ ?_
        · exact dk
        refine AW.block ?_
        refine AW.weak (Weak.slots (L := [(0, .pv (.slice (List.map PV.str values1))), (4, .pv (.int .i64 (IntKind.wrap .i64 ((values1.length : Int) - 1)))), (21, .pv (.slice (List.map PV.str values1))), (22, .pv (.int .i64 (values1.length : Int))), (23, .pv (.int .i64 0))]) ⟨rfl, rfl, rfl, rfl, rfl, trivial⟩) ?_
        refine AW.loopI (α := Nat × Int × Int) (fun (_, n11, i12) => ⟨sl [(0, .pv (.slice (List.map PV.str values1))), (4, .pv (.int .i64 n11)), (21, .pv (.slice (List.map PV.str values1))), (22, .pv (.int .i64 (values1.length : Int))), (23, .pv (.int .i64 i12))], 36, []⟩) (fun x => iter (F39_b1 values1) x.1 x.2 = some (r2, r3)) (fun x => x.1) (BIG, (IntKind.wrap .i64 ((values1.length : Int) - 1), 0)) h ?_
        clear h
        intro ⟨n24, n11, i12⟩ h
        replace h := iter_some h; obtain ⟨m15, rfl, h⟩ := h
        rw [F39_b1] at h
        try dsimp only at h
        show AW _ _ _ _ ⟨sl [(0, .pv (.slice (List.map PV.str values1))), (4, .pv (.int .i64 n11)), (21, .pv (.slice (List.map PV.str values1))), (22, .pv (.int .i64 (values1.length : Int))), (23, .pv (.int .i64 i12))], 36, []⟩
        refine AW.seq ?_
        refine AW.reg hS [(0, .pv (.slice (List.map PV.str values1))), (4, .pv (.int .i64 n11)), (21, .pv (.slice (List.map PV.str values1))), (22, .pv (.int .i64 (values1.length : Int))), (23, .pv (.int .i64 i12)), (24, .pv (.bool (decide (i12 < (values1.length : Int)))))] [] ?_ ?_
        · exact dk
        refine AW.seq ?_
        refine AW.cond (b := decide (i12 < (values1.length : Int))) rfl (fun hb16 => ?_) (fun hb16 => ?_)
        · replace h := bif_t hb16 h
          refine AW.skip ?_
          refine AW.seq ?_
          refine AW.block ?_
          refine AW.seq ?_
          replace h := obs h; obtain ⟨w17, q18, h⟩ := h
          have f19 := lidx_f q18
          refine AW.reg hS [(0, .pv (.slice (List.map PV.str values1))), (4, .pv (.int .i64 n11)), (6, .pv (.str w17)), (21, .pv (.slice (List.map PV.str values1))), (22, .pv (.int .i64 (values1.length : Int))), (23, .pv (.int .i64 i12))] [] ?_ ?_
          · exact dk1 (an f19.1 f19.2.1)
          refine AW.seq ?_
          refine AW.reg hS [(0, .pv (.slice (List.map PV.str values1))), (4, .pv (.int .i64 (IntKind.wrap .i64 (n11 + (w17.length : Int))))), (21, .pv (.slice (List.map PV.str values1))), (22, .pv (.int .i64 (values1.length : Int))), (23, .pv (.int .i64 i12))] [] ?_ ?_
          · exact dk
          refine AW.seq ?_
          refine AW.reg hS [(0, .pv (.slice (List.map PV.str values1))), (4, .pv (.int .i64 (IntKind.wrap .i64 (n11 + (w17.length : Int))))), (21, .pv (.slice (List.map PV.str values1))), (22, .pv (.int .i64 (values1.length : Int))), (23, .pv (.int .i64 i12)), (32, .pv (.bool (decide (65536 < IntKind.wrap .i64 (n11 + (w17.length : Int))))))] [] ?_ ?_
          · exact dk
          refine AW.cond (b := decide (65536 < IntKind.wrap .i64 (n11 + (w17.length : Int)))) rfl (fun hb20 => ?_) (fun hb20 => ?_)
          · replace h := bif_t hb20 h
            refine AW.seq ?_
            refine AW.reg hS [(2, .pv (.str [])), (3, .pv (.int .i64 4))] [] ?_ ?_
            · exact dk
            refine AW.ret ?_
            cases h
            exact fin
          · replace h := bif_f hb20 h
            refine AW.skip ?_
            refine AW.reg hS [(0, .pv (.slice (List.map PV.str values1))), (4, .pv (.int .i64 (IntKind.wrap .i64 (n11 + (w17.length : Int))))), (21, .pv (.slice (List.map PV.str values1))), (22, .pv (.int .i64 (values1.length : Int))), (23, .pv (.int .i64 (IntKind.wrap .i64 (i12 + 1))))] [] ?_ ?_
            · exact dk
            exact ⟨(m15, (IntKind.wrap .i64 (n11 + (w17.length : Int)), IntKind.wrap .i64 (i12 + 1))), h, (Weak.norm (m := 0) (Nat.le_of_ble_eq_true rfl) ⟨rfl, rfl, rfl, rfl, rfl, trivial⟩ rfl rfl rfl), Nat.lt_succ_self _⟩
        · replace h := bif_f hb16 h
          refine AW.exit ?_
          refine AW.seq ?_
          replace h := obs h; obtain ⟨s21, q22, h⟩ := h
          have f23 := c_L_Join values1 [0] s21 q22
          try dsimp only at f23
          try simp only [List.map_cons, List.map_nil, P23_eq, Var.pv_eq, P32_eq, GEnv.pv_eq, GOp.pv_eq] at f23
          refine AW.reg hS [(2, .pv (.str s21)), (3, .pv (.int .i64 0))] [] ?_ ?_
          · exact dk1 (an pf_70 f23)
          refine AW.ret ?_
          cases h
          exact fin

set_option maxHeartbeats 4000000 in
theorem g_F41 {O : Orc} (hS : Sound env O) (hpf : O.pf = pfn) (c_F34 : C_F34 O) (g1 : GEnv) (name2 : Str) (values3 : List Str) (r4 : GEnv) (r5 : Int) (h : F41 g1 name2 values3 = some (r4, r5)) : Good env 41 [.pv (.agg [.int .i64 g1.id_, .int .i64 g1.next_, .slice (List.map Var.pv g1.vars_)]), .pv (.str name2), .pv (.slice (List.map PV.str values3))] [] [.pv (.agg [.int .i64 r4.id_, .int .i64 r4.next_, .slice (List.map Var.pv r4.vars_)]), .pv (.int .i64 r5)] [] := by
  have pf_34 : O.pf 34 = false := by rw [hpf]; rfl
  refine Good.start (fn := Tryz.f41) (N := 34) fn_41 rfl rfl (by simp) [] _ rfl rfl ?_
  rw [F41] at h
  refine AW.seq ?_
  refine AW.reg hS [(1, .pv (.str name2)), (2, .pv (.slice (List.map PV.str values3))), (3, .ref 0 0), (6, .ref 1 0)] [.var [.pv (.int .i64 g1.id_), .pv (.int .i64 g1.next_), .pv (.slice (List.map Var.pv g1.vars_))], .var [.pv (.int .i64 0), .pv (.int .i64 0), .nils]] ?_ ?_
  · exact dk
  refine AW.seq ?_
  refine AW.seq ?_
  refine AW.reg hS [(1, .pv (.str name2)), (2, .pv (.slice (List.map PV.str values3))), (3, .ref 0 0), (6, .ref 1 0), (16, .pv (.bool (decide (64 ≤ (g1.vars_.length : Int)) || decide (1048575 < g1.next_))))] [.var [.pv (.int .i64 g1.id_), .pv (.int .i64 g1.next_), .pv (.slice (List.map Var.pv g1.vars_))], .var [.pv (.int .i64 0), .pv (.int .i64 0), .nils]] ?_ ?_
  · clear h
    exact dg
  refine AW.cond (b := (decide (64 ≤ (g1.vars_.length : Int)) || decide (1048575 < g1.next_))) rfl (fun hb6 => ?_) (fun hb6 => ?_)
  · replace h := bif_t hb6 h
    refine AW.seq ?_
    refine AW.reg hS [(6, .ref 1 0), (7, .pv (.int .i64 22))] [.var [.pv (.int .i64 g1.id_), .pv (.int .i64 g1.next_), .pv (.slice (List.map Var.pv g1.vars_))], .var [.pv (.int .i64 g1.id_), .pv (.int .i64 g1.next_), .pv (.slice (List.map Var.pv g1.vars_))]] ?_ ?_
    · exact dk
    refine AW.ret ?_
    cases h
    exact fin
  · replace h := bif_f hb6 h
    refine AW.skip ?_
    refine AW.seq ?_
    replace h := obs h; obtain ⟨r7, q8, h⟩ := h
    have f9 := c_F34 g1.vars_ r7 q8
    try dsimp only at f9
    have e10 : ecall O [.var [.pv (.int .i64 g1.id_), .pv (.int .i64 g1.next_), .pv (.slice (List.map Var.pv g1.vars_))], .var [.pv (.int .i64 0), .pv (.int .i64 0), .nils]] 34 [.pv (.slice (List.map Var.pv g1.vars_))] = some (retAV [.vec 2 (List.length r7)], [.var [.pv (.int .i64 g1.id_), .pv (.int .i64 g1.next_), .pv (.slice (List.map Var.pv g1.vars_))], .var [.pv (.int .i64 0), .pv (.int .i64 0), .nils], .row 37 3 (List.map Var.pv r7) false]) := ecall_eq rfl rfl rfl f9 rfl rfl rfl
    replace h := obs h; obtain ⟨out11, q12, h⟩ := h
    have f13 := appO_f q12
    try simp only [List.length_cons, List.length_nil, List.length_replicate, Nat.zero_add, Nat.reduceAdd, Nat.reduceLeDiff, Nat.add_zero, Nat.reduceMul] at f13
    refine AW.dregV mixed hS [2, 9, 11] [(0, 0), (1, 0), (2, 0), (3, 0), (3, 1), (4, 0), (4, 1), (5, 0), (5, 1), (6, 0), (6, 1), (7, 0), (7, 1), (8, 0), (8, 1), (9, 1), (10, 2), (11, 2)] [.ref 0 2, .pv (.slice (List.map Var.pv g1.vars_)), .vec 2 (List.length r7), .ref 0 1, .pv (.int .i64 g1.next_), .pv (.str name2), .pv (.slice (List.map PV.str values3)), .pv (.agg [.int .i64 g1.next_, .str name2, .slice (List.map PV.str values3)]), .full (List.map Var.pv [Var.mk g1.next_ name2 values3]), .vec 2 (List.length out11), .ref 0 2, .any] [[.var [.pv (.int .i64 g1.id_), .pv (.int .i64 g1.next_), .pv (.slice (List.map Var.pv g1.vars_))], .var [.pv (.int .i64 0), .pv (.int .i64 0), .nils]], [.var [.pv (.int .i64 g1.id_), .pv (.int .i64 g1.next_), .pv (.slice (List.map Var.pv g1.vars_))], .var [.pv (.int .i64 0), .pv (.int .i64 0), .nils], .row 37 3 (List.map Var.pv r7) false], [.var [.pv (.int .i64 g1.id_), .pv (.int .i64 g1.next_), .pv (.slice (List.map Var.pv g1.vars_))], .var [.pv (.int .i64 0), .pv (.int .i64 0), .nils], .row 37 3 (List.map Var.pv out11) false], [.var [.pv (.int .i64 g1.id_), .pv (.int .i64 g1.next_), .vec 2 (List.length out11)], .var [.pv (.int .i64 0), .pv (.int .i64 0), .nils], .row 37 3 (List.map Var.pv out11) false]] [(18, .ref 0 2), (19, .pv (.slice (List.map Var.pv g1.vars_))), (20, .vec 2 (List.length r7)), (21, .ref 0 1), (22, .pv (.int .i64 g1.next_)), (23, .pv (.str name2)), (24, .pv (.slice (List.map PV.str values3))), (25, .pv (.agg [.int .i64 g1.next_, .str name2, .slice (List.map PV.str values3)])), (26, .full (List.map Var.pv [Var.mk g1.next_ name2 values3])), (27, .vec 2 (List.length out11)), (28, .ref 0 2), (1, .pv (.str name2)), (2, .pv (.slice (List.map PV.str values3))), (3, .ref 0 0), (6, .ref 1 0), (16, .pv (.bool (decide (64 ≤ (g1.vars_.length : Int)) || decide (1048575 < g1.next_))))] (by kernel_rfl) (by kernel_rfl) (by kernel_rfl) ?_ [(3, .ref 0 0), (6, .ref 1 0)] [.var [.pv (.int .i64 g1.id_), .pv (.int .i64 g1.next_), .vec 2 (List.length out11)], .var [.pv (.int .i64 0), .pv (.int .i64 0), .nils], .row 37 3 (List.map Var.pv out11) false] ⟨rfl, rfl, trivial⟩ rfl ?_
    · repeat' (first | exact Facts.nil | refine Facts.cons rfl rfl rfl ?_ ?_)
      all_goals exact dv1 (an pf_34 (an e10 (an f13.1 f13.2)))
    clear f13
    refine AW.seq ?_
    refine AW.reg hS [(3, .ref 0 0), (6, .ref 1 0)] [.var [.pv (.int .i64 g1.id_), .pv (.int .i64 (IntKind.wrap .i64 (g1.next_ + 1))), .vec 2 (List.length out11)], .var [.pv (.int .i64 0), .pv (.int .i64 0), .nils], .row 37 3 (List.map Var.pv out11) false] ?_ ?_
    · exact dk
    refine AW.seq ?_
    refine AW.weak (Weak.freeze 2 rfl) ?_
    refine AW.weak (σ' := ⟨sl [(3, .ref 0 0), (6, .ref 1 0)], 34, [.var [.pv (.int .i64 g1.id_), .pv (.int .i64 (IntKind.wrap .i64 (g1.next_ + 1))), .vec 2 (List.length out11)], .var [.pv (.int .i64 0), .pv (.int .i64 0), .nils], .row 37 3 (List.map Var.pv out11) true]⟩) (Weak.slots ⟨rfl, rfl, trivial⟩) ?_
    refine AW.weak (Weak.cellPV 0 2 (cs := [.pv (.int .i64 g1.id_), .pv (.int .i64 (IntKind.wrap .i64 (g1.next_ + 1))), .vec 2 (List.length out11)]) (a := .vec 2 (List.length out11)) (p := .slice (List.map Var.pv out11)) rfl rfl (by first | rfl | simp only [toPV, List.getElem?_cons_zero, List.getElem?_cons_succ, List.length_map, if_true, List.map_nil])) ?_
    refine AW.weak (σ' := ⟨sl [(3, .ref 0 0), (6, .ref 1 0)], 34, [.var [.pv (.int .i64 g1.id_), .pv (.int .i64 (IntKind.wrap .i64 (g1.next_ + 1))), .pv (.slice (List.map Var.pv out11))], .var [.pv (.int .i64 0), .pv (.int .i64 0), .nils], .row 37 3 (List.map Var.pv out11) true]⟩) (Weak.of_eq (Weak.slots (L := [(3, .ref 0 0), (6, .ref 1 0)]) ⟨rfl, rfl, trivial⟩) (by first | rfl | (simp only [List.length_set, List.length_map]; rfl))) ?_
    refine AW.reg hS [(6, .ref 1 0), (7, .pv (.int .i64 0))] [.var [.pv (.int .i64 g1.id_), .pv (.int .i64 (IntKind.wrap .i64 (g1.next_ + 1))), .pv (.slice (List.map Var.pv out11))], .var [.pv (.int .i64 g1.id_), .pv (.int .i64 (IntKind.wrap .i64 (g1.next_ + 1))), .pv (.slice (List.map Var.pv out11))], .row 37 3 (List.map Var.pv out11) true] ?_ ?_
    · exact dk
    refine AW.ret ?_
    cases h
    exact fin

set_option maxHeartbeats 4000000 in
theorem g_F14 {O : Orc} (hS : Sound env O) (hpf : O.pf = pfn) (c_F32 : C_F32 O) (c_F33 : C_F33 O) (c_F36 : C_F36 O) (c_F37 : C_F37 O) (c_L_DeleteV : C_L_DeleteV O) (c_F39 : C_F39 O) (c_L_Clone : C_L_Clone O) (c_F41 : C_F41 O) (l1 : List GEnv) (group2 : Int) (name3 : Str) (values4 : List Str) (r5 : List GEnv) (r6 : Int) (h : F14 l1 group2 name3 values4 = some (r5, r6)) : Good env 14 [.pv (.slice (List.map GEnv.pv l1)), .pv (.int .i64 group2), .pv (.str name3), .pv (.slice (List.map PV.str values4))] [] [.pv (.slice (List.map GEnv.pv r5)), .pv (.int .i64 r6)] [] := by
  have pf_32 : O.pf 32 = false := by rw [hpf]; rfl
  have pf_33 : O.pf 33 = true := by rw [hpf]; rfl
  have pf_36 : O.pf 36 = true := by rw [hpf]; rfl
  have pf_37 : O.pf 37 = false := by rw [hpf]; rfl
  have pf_38 : O.pf 38 = false := by rw [hpf]; rfl
  have pf_39 : O.pf 39 = true := by rw [hpf]; rfl
  have pf_40 : O.pf 40 = true := by rw [hpf]; rfl
  have pf_41 : O.pf 41 = true := by rw [hpf]; rfl
  refine Good.start (fn := Tryz.f14) (N := 98) fn_14 rfl rfl (by simp) [] _ rfl rfl ?_
  rw [F14] at h
  refine AW.seq ?_
  refine AW.reg hS [(0, .pv (.slice (List.map GEnv.pv l1))), (1, .pv (.int .i64 group2)), (2, .pv (.str name3)), (3, .pv (.slice (List.map PV.str values4)))] [] ?_ ?_
  · exact dk
  refine AW.seq ?_
  replace h := obs h; obtain ⟨⟨r7, m8⟩, q9, h⟩ := h
  dsimp only at h
  have f10 := c_F32 l1 r7 m8 q9
  try dsimp only at f10
  have e11 : ecall O [] 32 [.pv (.slice (List.map GEnv.pv l1))] = some (retAV [.vec 0 (List.length r7)], [.tree 34 3 2 37 3 m8 (List.map GEnv.pv r7)]) := ecall_eq rfl rfl rfl f10 rfl rfl rfl
  refine AW.reg hS [(0, .pv (.slice (List.map GEnv.pv l1))), (1, .pv (.int .i64 group2)), (2, .pv (.str name3)), (3, .pv (.slice (List.map PV.str values4))), (10, .vec 0 (List.length r7))] [.tree 34 3 2 37 3 m8 (List.map GEnv.pv r7)] ?_ ?_
  · exact dk1 (an pf_32 e11)
  refine AW.seq ?_
  replace h := obs h; obtain ⟨r12, q13, h⟩ := h
  have f14 := c_F33 l1 group2 r12 q13
  try dsimp only at f14
  refine AW.reg hS [(2, .pv (.str name3)), (3, .pv (.slice (List.map PV.str values4))), (10, .vec 0 (List.length r7)), (11, .pv (.int .i64 r12))] [.tree 34 3 2 37 3 m8 (List.map GEnv.pv r7)] ?_ ?_
  · exact dk1 (an pf_33 f14)
  refine AW.seq ?_
  refine AW.block ?_
  refine AW.seq ?_
  refine AW.reg hS [(2, .pv (.str name3)), (3, .pv (.slice (List.map PV.str values4))), (10, .vec 0 (List.length r7)), (11, .pv (.int .i64 r12)), (22, .pv (.bool (decide (r12 < 0))))] [.tree 34 3 2 37 3 m8 (List.map GEnv.pv r7)] ?_ ?_
  · exact dk
  refine AW.cond (b := decide (r12 < 0)) rfl (fun hb15 => ?_) (fun hb15 => ?_)
  · replace h := bif_t hb15 h
    refine AW.seq ?_
    refine AW.reg hS [(8, .vec 0 (List.length r7)), (9, .pv (.int .i64 1))] [.tree 34 3 2 37 3 m8 (List.map GEnv.pv r7)] ?_ ?_
    · exact dk
    refine AW.weak (Weak.treeRow 0 rfl) ?_
    refine AW.weak (σ' := ⟨sl [(8, .vec 0 (List.length r7)), (9, .pv (.int .i64 1))], 98, [.row 34 3 (List.map GEnv.pv r7) false]⟩) (Weak.of_eq (Weak.slots (L := [(8, .vec 0 (List.length r7)), (9, .pv (.int .i64 1))]) ⟨rfl, rfl, trivial⟩) (by first | rfl | (simp only [List.length_set, List.length_map]; rfl))) ?_
    refine AW.weak (Weak.freeze 0 rfl) ?_
    refine AW.weak (σ' := ⟨sl [(8, .vec 0 (List.length r7)), (9, .pv (.int .i64 1))], 98, [.row 34 3 (List.map GEnv.pv r7) true]⟩) (Weak.slots ⟨rfl, rfl, trivial⟩) ?_
    refine AW.ret ?_
    cases h
    exact fin
  · replace h := bif_f hb15 h
    refine AW.seq ?_
    replace h := obs h; obtain ⟨r16, q17, h⟩ := h
    have f18 := c_F36 name3 r16 q17
    try dsimp only at f18
    refine AW.reg hS [(2, .pv (.str name3)), (3, .pv (.slice (List.map PV.str values4))), (10, .vec 0 (List.length r7)), (11, .pv (.int .i64 r12)), (26, .pv (.bool (!r16)))] [.tree 34 3 2 37 3 m8 (List.map GEnv.pv r7)] ?_ ?_
    · exact dk1 (an pf_36 f18)
    refine AW.cond (b := !r16) rfl (fun hb19 => ?_) (fun hb19 => ?_)
    · replace h := bif_t hb19 h
      refine AW.seq ?_
      refine AW.reg hS [(8, .vec 0 (List.length r7)), (9, .pv (.int .i64 6))] [.tree 34 3 2 37 3 m8 (List.map GEnv.pv r7)] ?_ ?_
      · exact dk
      refine AW.weak (Weak.treeRow 0 rfl) ?_
      refine AW.weak (σ' := ⟨sl [(8, .vec 0 (List.length r7)), (9, .pv (.int .i64 6))], 98, [.row 34 3 (List.map GEnv.pv r7) false]⟩) (Weak.of_eq (Weak.slots (L := [(8, .vec 0 (List.length r7)), (9, .pv (.int .i64 6))]) ⟨rfl, rfl, trivial⟩) (by first | rfl | (simp only [List.length_set, List.length_map]; rfl))) ?_
      refine AW.weak (Weak.freeze 0 rfl) ?_
      refine AW.weak (σ' := ⟨sl [(8, .vec 0 (List.length r7)), (9, .pv (.int .i64 6))], 98, [.row 34 3 (List.map GEnv.pv r7) true]⟩) (Weak.slots ⟨rfl, rfl, trivial⟩) ?_
      refine AW.ret ?_
      cases h
      exact fin
    · replace h := bif_f hb19 h
      refine AW.skip ?_
      refine AW.seq ?_
      replace h := obs h; obtain ⟨u20, q21, h⟩ := h
      have f22 := lidx_f q21
      replace h := obs h; obtain ⟨_, hoq2, h⟩ := h
      have hop2 := ltO_f hoq2
      refine AW.weak (Weak.open 0 (Int.toNat r12) (ys := List.map Var.pv u20.vars_) (cs := [.int .i64 u20.id_, .int .i64 u20.next_, .slice (List.map Var.pv u20.vars_)]) rfl hop2 (by rw [List.getElem?_map, f22.2.1]; rfl) rfl) ?_
      refine AW.weak (σ' := ⟨sl [(2, .pv (.str name3)), (3, .pv (.slice (List.map PV.str values4))), (10, .vec 0 (List.length r7)), (11, .pv (.int .i64 r12)), (26, .pv (.bool (!r16)))], 98, [.hrow 34 3 (List.map GEnv.pv r7) (Int.toNat r12) 2 1 (List.length u20.vars_), .row 37 3 (List.map Var.pv u20.vars_) false]⟩) (Weak.of_eq (Weak.slots (L := [(2, .pv (.str name3)), (3, .pv (.slice (List.map PV.str values4))), (10, .vec 0 (List.length r7)), (11, .pv (.int .i64 r12)), (26, .pv (.bool (!r16)))]) ⟨rfl, rfl, rfl, rfl, rfl, trivial⟩) (by first | rfl | (simp only [List.length_set, List.length_map]; rfl))) ?_
      replace h := obs h; obtain ⟨r23, q24, h⟩ := h
      have f25 := c_F37 u20.id_ u20.next_ name3 u20.vars_ r23 q24
      try dsimp only at f25
      have e26 : ecall O [.hrow 34 3 (List.map GEnv.pv r7) (Int.toNat r12) 2 1 (List.length u20.vars_), .row 37 3 (List.map Var.pv u20.vars_) false] 37 [.agg [.pv (.int .i64 u20.id_), .pv (.int .i64 u20.next_), .vec 1 (List.length u20.vars_)], .pv (.str name3)] = some (retAV [.pv (.int .i64 r23)], [.hrow 34 3 (List.map GEnv.pv r7) (Int.toNat r12) 2 1 (List.length u20.vars_), .row 37 3 (List.map Var.pv u20.vars_) false]) := ecall_eq rfl rfl rfl f25 rfl rfl rfl
      refine AW.reg hS [(2, .pv (.str name3)), (3, .pv (.slice (List.map PV.str values4))), (10, .vec 0 (List.length r7)), (11, .pv (.int .i64 r12)), (12, .pv (.int .i64 r23))] [.hrow 34 3 (List.map GEnv.pv r7) (Int.toNat r12) 2 1 (List.length u20.vars_), .row 37 3 (List.map Var.pv u20.vars_) false] ?_ ?_
      · exact dk1 (an f22.1 (an f22.2.1 (an f22.2.2 (an pf_37 e26))))
      refine AW.seq ?_
      refine AW.seq ?_
      refine AW.reg hS [(2, .pv (.str name3)), (3, .pv (.slice (List.map PV.str values4))), (10, .vec 0 (List.length r7)), (11, .pv (.int .i64 r12)), (12, .pv (.int .i64 r23)), (39, .pv (.bool (decide ((values4.length : Int) = 0))))] [.hrow 34 3 (List.map GEnv.pv r7) (Int.toNat r12) 2 1 (List.length u20.vars_), .row 37 3 (List.map Var.pv u20.vars_) false] ?_ ?_
      · exact dk
      refine AW.cond (b := decide ((values4.length : Int) = 0)) rfl (fun hb27 => ?_) (fun hb27 => ?_)
      · replace h := bif_t hb27 h
        refine AW.seq ?_
        refine AW.seq ?_
        refine AW.reg hS [(10, .vec 0 (List.length r7)), (11, .pv (.int .i64 r12)), (12, .pv (.int .i64 r23)), (41, .pv (.bool (decide (0 ≤ r23))))] [.hrow 34 3 (List.map GEnv.pv r7) (Int.toNat r12) 2 1 (List.length u20.vars_), .row 37 3 (List.map Var.pv u20.vars_) false] ?_ ?_
        · exact dk
        refine AW.cond (b := decide (0 ≤ r23)) rfl (fun hb28 => ?_) (fun hb28 => ?_)
        · replace h := bif_t hb28 h
          replace h := obs h; obtain ⟨⟨r29, y30⟩, q31, h⟩ := h
          dsimp only at h
          have f32 := c_L_DeleteV u20.vars_ r23 (IntKind.wrap .i64 (r23 + 1)) r29 y30 q31
          try dsimp only at f32
          have e33 : ecall O [.hrow 34 3 (List.map GEnv.pv r7) (Int.toNat r12) 2 1 (List.length u20.vars_), .row 37 3 (List.map Var.pv u20.vars_) false] 38 [.vec 1 (List.length u20.vars_), .pv (.int .i64 r23), .pv (.int .i64 (IntKind.wrap .i64 (r23 + 1)))] = some (retAV [.pv (.slice (List.map Var.pv r29))], [.hrow 34 3 (List.map GEnv.pv r7) (Int.toNat r12) 2 1 (List.length u20.vars_), .row 37 3 (List.map Var.pv y30) true]) := ecall_eq rfl rfl rfl f32 rfl rfl rfl
          refine AW.reg hS [(10, .vec 0 (List.length (List.set r7 (Int.toNat r12) (GEnv.mk u20.id_ u20.next_ r29))))] [.row 34 3 (List.map GEnv.pv (List.set r7 (Int.toNat r12) (GEnv.mk u20.id_ u20.next_ r29))) false, .row 37 3 (List.map Var.pv y30) true] ?_ ?_
          · simp -implicitDefEqProofs only [RUNS, qindex, Nat.reduceAdd, Nat.reduceLeDiff, Nat.reduceSub, reduceIte, Nat.reduceEqDiff, Nat.reduceLT, reduceCtorEq, Nat.reduceMul, Nat.reduceBEq, Int.reduceEq, if_true, if_false, eq_self, ne_eq, TYS, f22.1, f22.2.1, f22.2.2, pf_38, e33, storeHole.eq_1, Nat.reduceLeDiff] <;> (try simp only [List.length_take, List.length_drop, List.length_map])
          refine AW.seq ?_
          refine AW.reg hS [(8, .vec 0 (List.length (List.set r7 (Int.toNat r12) (GEnv.mk u20.id_ u20.next_ r29)))), (9, .pv (.int .i64 0))] [.row 34 3 (List.map GEnv.pv (List.set r7 (Int.toNat r12) (GEnv.mk u20.id_ u20.next_ r29))) false, .row 37 3 (List.map Var.pv y30) true] ?_ ?_
          · exact dk
          refine AW.weak (Weak.freeze 0 rfl) ?_
          refine AW.weak (σ' := ⟨sl [(8, .vec 0 (List.length (List.set r7 (Int.toNat r12) (GEnv.mk u20.id_ u20.next_ r29)))), (9, .pv (.int .i64 0))], 98, [.row 34 3 (List.map GEnv.pv (List.set r7 (Int.toNat r12) (GEnv.mk u20.id_ u20.next_ r29))) true, .row 37 3 (List.map Var.pv y30) true]⟩) (Weak.slots ⟨rfl, rfl, trivial⟩) ?_
          refine AW.ret ?_
          cases h
          exact fin
        · replace h := bif_f hb28 h
          refine AW.skip ?_
          refine AW.seq ?_
          refine AW.reg hS [(8, .vec 0 (List.length r7)), (9, .pv (.int .i64 0))] [.hrow 34 3 (List.map GEnv.pv r7) (Int.toNat r12) 2 1 (List.length u20.vars_), .row 37 3 (List.map Var.pv u20.vars_) false] ?_ ?_
          · exact dk
          refine AW.weak (Weak.freeze 1 rfl) ?_
          refine AW.weak (σ' := ⟨sl [(8, .vec 0 (List.length r7)), (9, .pv (.int .i64 0))], 98, [.hrow 34 3 (List.map GEnv.pv r7) (Int.toNat r12) 2 1 (List.length u20.vars_), .row 37 3 (List.map Var.pv u20.vars_) true]⟩) (Weak.slots ⟨rfl, rfl, trivial⟩) ?_
          refine AW.weak (Weak.close 0 (cs := [.int .i64 u20.id_, .int .i64 u20.next_, .slice (List.map Var.pv u20.vars_)]) (xs' := List.map GEnv.pv r7) rfl rfl (by simp only [List.length_map]) (by rw [List.getElem?_map, f22.2.1]; rfl) (set_self (by rw [List.getElem?_map, f22.2.1]; rfl))) ?_
          refine AW.weak (σ' := ⟨sl [(8, .vec 0 (List.length r7)), (9, .pv (.int .i64 0))], 98, [.row 34 3 (List.map GEnv.pv r7) false, .row 37 3 (List.map Var.pv u20.vars_) true]⟩) (Weak.of_eq (Weak.slots (L := [(8, .vec 0 (List.length r7)), (9, .pv (.int .i64 0))]) ⟨rfl, rfl, trivial⟩) (by first | rfl | (simp only [List.length_set, List.length_map]; rfl))) ?_
          refine AW.weak (Weak.freeze 0 rfl) ?_
          refine AW.weak (σ' := ⟨sl [(8, .vec 0 (List.length r7)), (9, .pv (.int .i64 0))], 98, [.row 34 3 (List.map GEnv.pv r7) true, .row 37 3 (List.map Var.pv u20.vars_) true]⟩) (Weak.slots ⟨rfl, rfl, trivial⟩) ?_
          refine AW.ret ?_
          cases h
          exact fin
      · replace h := bif_f hb27 h
        refine AW.skip ?_
        refine AW.seq ?_
        refine AW.seq ?_
        replace h := obs h; obtain ⟨⟨r34, r35⟩, q36, h⟩ := h
        dsimp only at h
        have f37 := c_F39 values4 r34 r35 q36
        try dsimp only at f37
        refine AW.reg hS [(2, .pv (.str name3)), (3, .pv (.slice (List.map PV.str values4))), (10, .vec 0 (List.length r7)), (11, .pv (.int .i64 r12)), (12, .pv (.int .i64 r23)), (14, .pv (.int .i64 r35))] [.hrow 34 3 (List.map GEnv.pv r7) (Int.toNat r12) 2 1 (List.length u20.vars_), .row 37 3 (List.map Var.pv u20.vars_) false] ?_ ?_
        · exact dk1 (an pf_39 f37)
        refine AW.seq ?_
        refine AW.reg hS [(2, .pv (.str name3)), (3, .pv (.slice (List.map PV.str values4))), (10, .vec 0 (List.length r7)), (11, .pv (.int .i64 r12)), (12, .pv (.int .i64 r23)), (14, .pv (.int .i64 r35)), (62, .pv (.bool (!decide (r35 = 0))))] [.hrow 34 3 (List.map GEnv.pv r7) (Int.toNat r12) 2 1 (List.length u20.vars_), .row 37 3 (List.map Var.pv u20.vars_) false] ?_ ?_
        · exact dk
        refine AW.cond (b := !decide (r35 = 0)) rfl (fun hb38 => ?_) (fun hb38 => ?_)
        · replace h := bif_t hb38 h
          refine AW.seq ?_
          refine AW.reg hS [(8, .vec 0 (List.length r7)), (9, .pv (.int .i64 r35))] [.hrow 34 3 (List.map GEnv.pv r7) (Int.toNat r12) 2 1 (List.length u20.vars_), .row 37 3 (List.map Var.pv u20.vars_) false] ?_ ?_
          · exact dk
          refine AW.weak (Weak.freeze 1 rfl) ?_
          refine AW.weak (σ' := ⟨sl [(8, .vec 0 (List.length r7)), (9, .pv (.int .i64 r35))], 98, [.hrow 34 3 (List.map GEnv.pv r7) (Int.toNat r12) 2 1 (List.length u20.vars_), .row 37 3 (List.map Var.pv u20.vars_) true]⟩) (Weak.slots ⟨rfl, rfl, trivial⟩) ?_
          refine AW.weak (Weak.close 0 (cs := [.int .i64 u20.id_, .int .i64 u20.next_, .slice (List.map Var.pv u20.vars_)]) (xs' := List.map GEnv.pv r7) rfl rfl (by simp only [List.length_map]) (by rw [List.getElem?_map, f22.2.1]; rfl) (set_self (by rw [List.getElem?_map, f22.2.1]; rfl))) ?_
          refine AW.weak (σ' := ⟨sl [(8, .vec 0 (List.length r7)), (9, .pv (.int .i64 r35))], 98, [.row 34 3 (List.map GEnv.pv r7) false, .row 37 3 (List.map Var.pv u20.vars_) true]⟩) (Weak.of_eq (Weak.slots (L := [(8, .vec 0 (List.length r7)), (9, .pv (.int .i64 r35))]) ⟨rfl, rfl, trivial⟩) (by first | rfl | (simp only [List.length_set, List.length_map]; rfl))) ?_
          refine AW.weak (Weak.freeze 0 rfl) ?_
          refine AW.weak (σ' := ⟨sl [(8, .vec 0 (List.length r7)), (9, .pv (.int .i64 r35))], 98, [.row 34 3 (List.map GEnv.pv r7) true, .row 37 3 (List.map Var.pv u20.vars_) true]⟩) (Weak.slots ⟨rfl, rfl, trivial⟩) ?_
          refine AW.ret ?_
          cases h
          exact fin
        · replace h := bif_f hb38 h
          refine AW.skip ?_
          refine AW.seq ?_
          refine AW.seq ?_
          refine AW.reg hS [(2, .pv (.str name3)), (3, .pv (.slice (List.map PV.str values4))), (10, .vec 0 (List.length r7)), (11, .pv (.int .i64 r12)), (12, .pv (.int .i64 r23)), (66, .pv (.bool (decide (0 ≤ r23))))] [.hrow 34 3 (List.map GEnv.pv r7) (Int.toNat r12) 2 1 (List.length u20.vars_), .row 37 3 (List.map Var.pv u20.vars_) false] ?_ ?_
          · exact dk
          refine AW.cond (b := decide (0 ≤ r23)) rfl (fun hb39 => ?_) (fun hb39 => ?_)
          · replace h := bif_t hb39 h
            refine AW.seq ?_
            replace h := obs h; obtain ⟨l40, q41, h⟩ := h
            have f42 := c_L_Clone values4 l40 q41
            try dsimp only at f42
            replace h := obs h; obtain ⟨u43, q44, h⟩ := h
            have f45 := lidx_f q44
            refine AW.dregB mixed hS [(69, none), (70, none), (75, none), (76, none)] rfl (hpf ▸ (by kernel_rfl : orderOKB pfn [(69, none), (70, none), (75, none), (76, none)] _ = true)) [(10, .vec 0 (List.length r7))] [.hrow 34 3 (List.map GEnv.pv r7) (Int.toNat r12) 2 1 (List.length u20.vars_), .row 37 3 (List.map Var.pv (List.set u20.vars_ (Int.toNat r23) (Var.mk u43.id_ u43.name_ l40))) false] ?_ ?_
            · exact dk1 (an f22.1 (an f22.2.1 (an f22.2.2 (an pf_40 (an f42 (an f45.1 (an f45.2.1 f45.2.2)))))))
            refine AW.seq ?_
            refine AW.reg hS [(8, .vec 0 (List.length r7)), (9, .pv (.int .i64 0))] [.hrow 34 3 (List.map GEnv.pv r7) (Int.toNat r12) 2 1 (List.length u20.vars_), .row 37 3 (List.map Var.pv (List.set u20.vars_ (Int.toNat r23) (Var.mk u43.id_ u43.name_ l40))) false] ?_ ?_
            · exact dk
            refine AW.weak (Weak.freeze 1 rfl) ?_
            refine AW.weak (σ' := ⟨sl [(8, .vec 0 (List.length r7)), (9, .pv (.int .i64 0))], 98, [.hrow 34 3 (List.map GEnv.pv r7) (Int.toNat r12) 2 1 (List.length u20.vars_), .row 37 3 (List.map Var.pv (List.set u20.vars_ (Int.toNat r23) (Var.mk u43.id_ u43.name_ l40))) true]⟩) (Weak.slots ⟨rfl, rfl, trivial⟩) ?_
            refine AW.weak (Weak.close 0 (cs := [.int .i64 u20.id_, .int .i64 u20.next_, .slice (List.map Var.pv u20.vars_)]) (xs' := List.map GEnv.pv (List.set r7 (Int.toNat r12) (GEnv.mk u20.id_ u20.next_ (List.set u20.vars_ (Int.toNat r23) (Var.mk u43.id_ u43.name_ l40))))) rfl rfl (by simp only [List.length_map, List.length_set]) (by rw [List.getElem?_map, f22.2.1]; rfl) (by simp only [List.map_set, List.set_cons_succ, List.set_cons_zero, P23_eq, Var.pv_eq, P32_eq, GEnv.pv_eq, GOp.pv_eq])) ?_
            refine AW.weak (σ' := ⟨sl [(8, .vec 0 (List.length (List.set r7 (Int.toNat r12) (GEnv.mk u20.id_ u20.next_ (List.set u20.vars_ (Int.toNat r23) (Var.mk u43.id_ u43.name_ l40)))))), (9, .pv (.int .i64 0))], 98, [.row 34 3 (List.map GEnv.pv (List.set r7 (Int.toNat r12) (GEnv.mk u20.id_ u20.next_ (List.set u20.vars_ (Int.toNat r23) (Var.mk u43.id_ u43.name_ l40))))) false, .row 37 3 (List.map Var.pv (List.set u20.vars_ (Int.toNat r23) (Var.mk u43.id_ u43.name_ l40))) true]⟩) (Weak.of_eq (Weak.slots (L := [(8, .vec 0 (List.length r7)), (9, .pv (.int .i64 0))]) ⟨rfl, rfl, trivial⟩) (by first | rfl | (simp only [List.length_set, List.length_map]; rfl))) ?_
            refine AW.weak (Weak.freeze 0 rfl) ?_
            refine AW.weak (σ' := ⟨sl [(8, .vec 0 (List.length (List.set r7 (Int.toNat r12) (GEnv.mk u20.id_ u20.next_ (List.set u20.vars_ (Int.toNat r23) (Var.mk u43.id_ u43.name_ l40)))))), (9, .pv (.int .i64 0))], 98, [.row 34 3 (List.map GEnv.pv (List.set r7 (Int.toNat r12) (GEnv.mk u20.id_ u20.next_ (List.set u20.vars_ (Int.toNat r23) (Var.mk u43.id_ u43.name_ l40))))) true, .row 37 3 (List.map Var.pv (List.set u20.vars_ (Int.toNat r23) (Var.mk u43.id_ u43.name_ l40))) true]⟩) (Weak.slots ⟨rfl, rfl, trivial⟩) ?_
            refine AW.ret ?_
            cases h
            exact fin
          · replace h := bif_f hb39 h
            refine AW.skip ?_
            refine AW.seq ?_
            refine AW.weak (Weak.freeze 1 rfl) ?_
            refine AW.weak (σ' := ⟨sl [(2, .pv (.str name3)), (3, .pv (.slice (List.map PV.str values4))), (10, .vec 0 (List.length r7)), (11, .pv (.int .i64 r12)), (12, .pv (.int .i64 r23)), (66, .pv (.bool (decide (0 ≤ r23))))], 98, [.hrow 34 3 (List.map GEnv.pv r7) (Int.toNat r12) 2 1 (List.length u20.vars_), .row 37 3 (List.map Var.pv u20.vars_) true]⟩) (Weak.slots ⟨rfl, rfl, rfl, rfl, rfl, rfl, trivial⟩) ?_
            refine AW.weak (Weak.close 0 (cs := [.int .i64 u20.id_, .int .i64 u20.next_, .slice (List.map Var.pv u20.vars_)]) (xs' := List.map GEnv.pv r7) rfl rfl (by simp only [List.length_map]) (by rw [List.getElem?_map, f22.2.1]; rfl) (set_self (by rw [List.getElem?_map, f22.2.1]; rfl))) ?_
            refine AW.weak (σ' := ⟨sl [(2, .pv (.str name3)), (3, .pv (.slice (List.map PV.str values4))), (10, .vec 0 (List.length r7)), (11, .pv (.int .i64 r12)), (12, .pv (.int .i64 r23)), (66, .pv (.bool (decide (0 ≤ r23))))], 98, [.row 34 3 (List.map GEnv.pv r7) false, .row 37 3 (List.map Var.pv u20.vars_) true]⟩) (Weak.of_eq (Weak.slots (L := [(2, .pv (.str name3)), (3, .pv (.slice (List.map PV.str values4))), (10, .vec 0 (List.length r7)), (11, .pv (.int .i64 r12)), (12, .pv (.int .i64 r23)), (66, .pv (.bool (decide (0 ≤ r23))))]) ⟨rfl, rfl, rfl, rfl, rfl, rfl, trivial⟩) (by first | rfl | (simp only [List.length_set, List.length_map]; rfl))) ?_
            replace h := obs h; obtain ⟨l46, q47, h⟩ := h
            have f48 := c_L_Clone values4 l46 q47
            try dsimp only at f48
            replace h := obs h; obtain ⟨⟨r49, r50⟩, q51, h⟩ := h
            dsimp only at h
            have f52 := c_F41 u20 name3 l46 r49 r50 q51
            try dsimp only at f52
            refine AW.dregB mixed hS [(81, none)] rfl (hpf ▸ (by kernel_rfl : orderOKB pfn [(81, none)] _ = true)) [(10, .vec 0 (List.length r7)), (11, .pv (.int .i64 r12)), (15, .ref 2 0), (16, .pv (.int .i64 r50))] [.row 34 3 (List.map GEnv.pv r7) false, .row 37 3 (List.map Var.pv u20.vars_) true, .var [.pv (.int .i64 r49.id_), .pv (.int .i64 r49.next_), .pv (.slice (List.map Var.pv r49.vars_))]] ?_ ?_
            · exact dk1 (an f22.1 (an f22.2.1 (an f22.2.2 (an pf_40 (an f48 (an pf_41 f52))))))
            refine AW.seq ?_
            refine AW.seq ?_
            refine AW.reg hS [(10, .vec 0 (List.length r7)), (11, .pv (.int .i64 r12)), (15, .ref 2 0), (16, .pv (.int .i64 r50)), (90, .pv (.bool (!decide (r50 = 0))))] [.row 34 3 (List.map GEnv.pv r7) false, .row 37 3 (List.map Var.pv u20.vars_) true, .var [.pv (.int .i64 r49.id_), .pv (.int .i64 r49.next_), .pv (.slice (List.map Var.pv r49.vars_))]] ?_ ?_
            · exact dk
            refine AW.cond (b := !decide (r50 = 0)) rfl (fun hb53 => ?_) (fun hb53 => ?_)
            · replace h := bif_t hb53 h
              refine AW.seq ?_
              refine AW.reg hS [(8, .vec 0 (List.length r7)), (9, .pv (.int .i64 r50))] [.row 34 3 (List.map GEnv.pv r7) false, .row 37 3 (List.map Var.pv u20.vars_) true, .var [.pv (.int .i64 r49.id_), .pv (.int .i64 r49.next_), .pv (.slice (List.map Var.pv r49.vars_))]] ?_ ?_
              · exact dk
              refine AW.weak (Weak.freeze 0 rfl) ?_
              refine AW.weak (σ' := ⟨sl [(8, .vec 0 (List.length r7)), (9, .pv (.int .i64 r50))], 98, [.row 34 3 (List.map GEnv.pv r7) true, .row 37 3 (List.map Var.pv u20.vars_) true, .var [.pv (.int .i64 r49.id_), .pv (.int .i64 r49.next_), .pv (.slice (List.map Var.pv r49.vars_))]]⟩) (Weak.slots ⟨rfl, rfl, trivial⟩) ?_
              refine AW.ret ?_
              cases h
              exact fin
            · replace h := bif_f hb53 h
              refine AW.skip ?_
              refine AW.seq ?_
              refine AW.reg hS [(10, .vec 0 (List.length (List.set r7 (Int.toNat r12) r49)))] [.row 34 3 (List.map GEnv.pv (List.set r7 (Int.toNat r12) r49)) false, .row 37 3 (List.map Var.pv u20.vars_) true, .var [.pv (.int .i64 r49.id_), .pv (.int .i64 r49.next_), .pv (.slice (List.map Var.pv r49.vars_))]] ?_ ?_
              · exact dk1 (an f22.1 (an f22.2.1 f22.2.2))
              refine AW.seq ?_
              refine AW.reg hS [(8, .vec 0 (List.length (List.set r7 (Int.toNat r12) r49))), (9, .pv (.int .i64 0))] [.row 34 3 (List.map GEnv.pv (List.set r7 (Int.toNat r12) r49)) false, .row 37 3 (List.map Var.pv u20.vars_) true, .var [.pv (.int .i64 r49.id_), .pv (.int .i64 r49.next_), .pv (.slice (List.map Var.pv r49.vars_))]] ?_ ?_
              · exact dk
              refine AW.weak (Weak.freeze 0 rfl) ?_
              refine AW.weak (σ' := ⟨sl [(8, .vec 0 (List.length (List.set r7 (Int.toNat r12) r49))), (9, .pv (.int .i64 0))], 98, [.row 34 3 (List.map GEnv.pv (List.set r7 (Int.toNat r12) r49)) true, .row 37 3 (List.map Var.pv u20.vars_) true, .var [.pv (.int .i64 r49.id_), .pv (.int .i64 r49.next_), .pv (.slice (List.map Var.pv r49.vars_))]]⟩) (Weak.slots ⟨rfl, rfl, trivial⟩) ?_
              refine AW.ret ?_
              cases h
              exact fin

set_option maxHeartbeats 4000000 in
theorem g_F92 {O : Orc} (hS : Sound env O) (hpf : O.pf = pfn) (v1 : Var) (x2 : Int) (r3 : Bool) (h : F92 v1 x2 = some r3) : Good env 92 [.pv (.agg [.int .i64 v1.id_, .str v1.name_, .slice (List.map PV.str v1.values_)]), .ref 0 0] [.var [.pv (.int .i64 x2)]] [.pv (.bool r3)] [.var [.pv (.int .i64 x2)]] := by
  refine Good.start (fn := Tryz.f92) (N := 8) fn_92 rfl rfl (by simp) [] _ rfl rfl ?_
  rw [F92] at h
  refine AW.seq ?_
  refine AW.reg hS [(1, .ref 0 0), (2, .ref 1 0)] [.var [.pv (.int .i64 x2)], .var [.pv (.int .i64 v1.id_), .pv (.str v1.name_), .pv (.slice (List.map PV.str v1.values_))]] ?_ ?_
  · exact dk
  refine AW.seq ?_
  refine AW.reg hS [(3, .pv (.bool (decide (v1.id_ = x2))))] [.var [.pv (.int .i64 x2)], .var [.pv (.int .i64 v1.id_), .pv (.str v1.name_), .pv (.slice (List.map PV.str v1.values_))]] ?_ ?_
  · exact dk
  refine AW.ret ?_
  cases h
  exact fin

set_option maxHeartbeats 4000000 in
theorem g_F65x1 {O : Orc} (hS : Sound env O) (hpf : O.pf = pfn) (c_F92 : C_F92 O) (s1 : List Var) (x2 : Int) (r3 : Int) (h : F65x1 s1 x2 = some r3) : Good env 65 [.pv (.slice (List.map Var.pv s1)), .fn 92 [0]] [.var [.pv (.int .i64 x2)]] [.pv (.int .i64 r3)] [.var [.pv (.int .i64 x2)]] := by
  have pf_92 : O.pf 92 = false := by rw [hpf]; rfl
  refine Good.start (fn := Tryz.f65) (N := 19) fn_65 rfl rfl (by simp) [] _ rfl rfl ?_
  rw [F65x1] at h
  refine AW.seq ?_
  refine AW.reg hS [(0, .pv (.slice (List.map Var.pv s1))), (1, .fn 92 [0])] [.var [.pv (.int .i64 x2)]] ?_ ?_
  · exact dk
  refine AW.seq ?_
  refine AW.seq ?_
  refine AW.reg hS [(0, .pv (.slice (List.map Var.pv s1))), (1, .fn 92 [0]), (7, .pv (.int .i64 (s1.length : Int))), (8, .pv (.int .i64 0))] [.var [.pv (.int .i64 x2)]] ?_ ?_
  · exact dk
  refine AW.block ?_
  refine AW.weak (Weak.slots (L := [(0, .pv (.slice (List.map Var.pv s1))), (1, .fn 92 [0]), (7, .pv (.int .i64 (s1.length : Int))), (8, .pv (.int .i64 0))]) ⟨rfl, rfl, rfl, rfl, trivial⟩) ?_
  refine AW.loopI (α := Nat × Int) (fun (_, i4) => ⟨sl [(0, .pv (.slice (List.map Var.pv s1))), (1, .fn 92 [0]), (7, .pv (.int .i64 (s1.length : Int))), (8, .pv (.int .i64 i4))], 19, [.var [.pv (.int .i64 x2)]]⟩) (fun x => iter (F65x1_b1 s1 x2) x.1 x.2 = some r3) (fun x => x.1) (BIG, 0) h ?_
  clear h
  intro ⟨n17, i4⟩ h
  replace h := iter_some h; obtain ⟨m7, rfl, h⟩ := h
  rw [F65x1_b1] at h
  try dsimp only at h
  show AW _ _ _ _ ⟨sl [(0, .pv (.slice (List.map Var.pv s1))), (1, .fn 92 [0]), (7, .pv (.int .i64 (s1.length : Int))), (8, .pv (.int .i64 i4))], 19, [.var [.pv (.int .i64 x2)]]⟩
  refine AW.seq ?_
  refine AW.reg hS [(0, .pv (.slice (List.map Var.pv s1))), (1, .fn 92 [0]), (7, .pv (.int .i64 (s1.length : Int))), (8, .pv (.int .i64 i4)), (9, .pv (.bool (decide (i4 < (s1.length : Int)))))] [.var [.pv (.int .i64 x2)]] ?_ ?_
  · exact dk
  refine AW.seq ?_
  refine AW.cond (b := decide (i4 < (s1.length : Int))) rfl (fun hb8 => ?_) (fun hb8 => ?_)
  · replace h := bif_t hb8 h
    refine AW.skip ?_
    refine AW.seq ?_
    refine AW.block ?_
    refine AW.seq ?_
    refine AW.reg hS [(0, .pv (.slice (List.map Var.pv s1))), (1, .fn 92 [0]), (5, .pv (.int .i64 i4)), (7, .pv (.int .i64 (s1.length : Int))), (8, .pv (.int .i64 i4))] [.var [.pv (.int .i64 x2)]] ?_ ?_
    · exact dk
    refine AW.seq ?_
    replace h := obs h; obtain ⟨u9, q10, h⟩ := h
    have f11 := lidx_f q10
    replace h := obs h; obtain ⟨r12, q13, h⟩ := h
    have f14 := c_F92 u9 x2 r12 q13
    try dsimp only at f14
    have e15 : ecall O [.var [.pv (.int .i64 x2)]] 92 [.pv (.agg [.int .i64 u9.id_, .str u9.name_, .slice (List.map PV.str u9.values_)]), .ref 0 0] = some (retAV [.pv (.bool r12)], [.var [.pv (.int .i64 x2)]]) := ecall_eq rfl rfl rfl f14 rfl rfl rfl
    refine AW.reg hS [(0, .pv (.slice (List.map Var.pv s1))), (1, .fn 92 [0]), (5, .pv (.int .i64 i4)), (7, .pv (.int .i64 (s1.length : Int))), (8, .pv (.int .i64 i4)), (16, .pv (.bool r12))] [.var [.pv (.int .i64 x2)]] ?_ ?_
    · exact dk1 (an f11.1 (an f11.2.1 (an pf_92 e15)))
    refine AW.cond (b := r12) rfl (fun hb16 => ?_) (fun hb16 => ?_)
    · replace h := bif_t hb16 h
      refine AW.seq ?_
      refine AW.reg hS [(4, .pv (.int .i64 i4))] [.var [.pv (.int .i64 x2)]] ?_ ?_
      · exact dk
      refine AW.ret ?_
      cases h
      exact fin
    · replace h := bif_f hb16 h
      refine AW.skip ?_
      refine AW.reg hS [(0, .pv (.slice (List.map Var.pv s1))), (1, .fn 92 [0]), (7, .pv (.int .i64 (s1.length : Int))), (8, .pv (.int .i64 (IntKind.wrap .i64 (i4 + 1))))] [.var [.pv (.int .i64 x2)]] ?_ ?_
      · exact dk
      exact ⟨(m7, IntKind.wrap .i64 (i4 + 1)), h, (Weak.norm (m := 1) (Nat.le_of_ble_eq_true rfl) ⟨rfl, rfl, rfl, rfl, trivial⟩ rfl rfl rfl), Nat.lt_succ_self _⟩
  · replace h := bif_f hb8 h
    refine AW.exit ?_
    refine AW.seq ?_
    refine AW.reg hS [(4, .pv (.int .i64 (-1)))] [.var [.pv (.int .i64 x2)]] ?_ ?_
    · exact dk
    refine AW.ret ?_
    cases h
    exact fin

set_option maxHeartbeats 4000000 in
theorem g_F82 {O : Orc} (hS : Sound env O) (hpf : O.pf = pfn) (c_F65x1 : C_F65x1 O) (g1 : GEnv) (id2 : Int) (r3 : Int) (h : F82 g1 id2 = some r3) : Good env 82 [.pv (.agg [.int .i64 g1.id_, .int .i64 g1.next_, .slice (List.map Var.pv g1.vars_)]), .pv (.int .i64 id2)] [] [.pv (.int .i64 r3)] [] := by
  have pf_65 : O.pf 65 = false := by rw [hpf]; rfl
  refine Good.start (fn := Tryz.f82) (N := 9) fn_82 rfl rfl (by simp) [] _ rfl rfl ?_
  rw [F82] at h
  refine AW.seq ?_
  refine AW.reg hS [(2, .ref 0 0), (3, .ref 1 0)] [.var [.pv (.int .i64 g1.id_), .pv (.int .i64 g1.next_), .pv (.slice (List.map Var.pv g1.vars_))], .var [.pv (.int .i64 id2)]] ?_ ?_
  · exact dk
  refine AW.seq ?_
  replace h := obs h; obtain ⟨r4, q5, h⟩ := h
  have f6 := c_F65x1 g1.vars_ id2 r4 q5
  try dsimp only at f6
  have e7 : ecall O [.var [.pv (.int .i64 g1.id_), .pv (.int .i64 g1.next_), .pv (.slice (List.map Var.pv g1.vars_))], .var [.pv (.int .i64 id2)]] 65 [.pv (.slice (List.map Var.pv g1.vars_)), .fn 92 [1]] = some (retAV [.pv (.int .i64 r4)], [.var [.pv (.int .i64 g1.id_), .pv (.int .i64 g1.next_), .pv (.slice (List.map Var.pv g1.vars_))], .var [.pv (.int .i64 id2)]]) := ecall_eq rfl rfl rfl f6 rfl rfl rfl
  refine AW.reg hS [(4, .pv (.int .i64 r4))] [.var [.pv (.int .i64 g1.id_), .pv (.int .i64 g1.next_), .pv (.slice (List.map Var.pv g1.vars_))], .var [.pv (.int .i64 id2)]] ?_ ?_
  · exact dk1 (an pf_65 e7)
  refine AW.ret ?_
  cases h
  exact fin

set_option maxHeartbeats 4000000 in
theorem g_F58 {O : Orc} (hS : Sound env O) (hpf : O.pf = pfn) (c_F33 : C_F33 O) (c_F82 : C_F82 O) (l1 : List GEnv) (group2 : Int) (id3 : Int) (r4 : Int) (r5 : Int) (r6 : Int) (h : F58 l1 group2 id3 = some (r4, r5, r6)) : Good env 58 [.pv (.slice (List.map GEnv.pv l1)), .pv (.int .i64 group2), .pv (.int .i64 id3)] [] [.pv (.int .i64 r4), .pv (.int .i64 r5), .pv (.int .i64 r6)] [] := by
  have pf_33 : O.pf 33 = true := by rw [hpf]; rfl
  have pf_82 : O.pf 82 = true := by rw [hpf]; rfl
  refine Good.start (fn := Tryz.f58) (N := 29) fn_58 rfl rfl (by simp) [] _ rfl rfl ?_
  rw [F58] at h
  refine AW.seq ?_
  refine AW.reg hS [(0, .pv (.slice (List.map GEnv.pv l1))), (1, .pv (.int .i64 group2)), (2, .pv (.int .i64 id3))] [] ?_ ?_
  · exact dk
  refine AW.seq ?_
  replace h := obs h; obtain ⟨r7, q8, h⟩ := h
  have f9 := c_F33 l1 group2 r7 q8
  try dsimp only at f9
  refine AW.reg hS [(0, .pv (.slice (List.map GEnv.pv l1))), (2, .pv (.int .i64 id3)), (9, .pv (.int .i64 r7))] [] ?_ ?_
  · exact dk1 (an pf_33 f9)
  refine AW.seq ?_
  refine AW.seq ?_
  refine AW.reg hS [(0, .pv (.slice (List.map GEnv.pv l1))), (2, .pv (.int .i64 id3)), (9, .pv (.int .i64 r7)), (15, .pv (.bool (decide (r7 < 0))))] [] ?_ ?_
  · exact dk
  refine AW.cond (b := decide (r7 < 0)) rfl (fun hb10 => ?_) (fun hb10 => ?_)
  · replace h := bif_t hb10 h
    refine AW.seq ?_
    refine AW.reg hS [(6, .pv (.int .i64 0)), (7, .pv (.int .i64 0)), (8, .pv (.int .i64 8))] [] ?_ ?_
    · exact dk
    refine AW.ret ?_
    cases h
    exact fin
  · replace h := bif_f hb10 h
    refine AW.skip ?_
    refine AW.seq ?_
    refine AW.seq ?_
    refine AW.reg hS [(0, .pv (.slice (List.map GEnv.pv l1))), (2, .pv (.int .i64 id3)), (9, .pv (.int .i64 r7)), (17, .pv (.bool (decide (id3 = 1))))] [] ?_ ?_
    · exact dk
    refine AW.cond (b := decide (id3 = 1)) rfl (fun hb11 => ?_) (fun hb11 => ?_)
    · replace h := bif_t hb11 h
      refine AW.seq ?_
      refine AW.reg hS [(6, .pv (.int .i64 r7)), (7, .pv (.int .i64 (-1))), (8, .pv (.int .i64 0))] [] ?_ ?_
      · exact dk
      refine AW.ret ?_
      cases h
      exact fin
    · replace h := bif_f hb11 h
      refine AW.skip ?_
      refine AW.seq ?_
      replace h := obs h; obtain ⟨u12, q13, h⟩ := h
      have f14 := lidx_f q13
      replace h := obs h; obtain ⟨r15, q16, h⟩ := h
      have f17 := c_F82 u12 id3 r15 q16
      try dsimp only at f17
      refine AW.reg hS [(9, .pv (.int .i64 r7)), (10, .pv (.int .i64 r15))] [] ?_ ?_
      · exact dk1 (an f14.1 (an f14.2.1 (an pf_82 f17)))
      refine AW.seq ?_
      refine AW.seq ?_
      refine AW.reg hS [(9, .pv (.int .i64 r7)), (10, .pv (.int .i64 r15)), (26, .pv (.bool (decide (r15 < 0))))] [] ?_ ?_
      · exact dk
      refine AW.cond (b := decide (r15 < 0)) rfl (fun hb18 => ?_) (fun hb18 => ?_)
      · replace h := bif_t hb18 h
        refine AW.seq ?_
        refine AW.reg hS [(6, .pv (.int .i64 0)), (7, .pv (.int .i64 0)), (8, .pv (.int .i64 8))] [] ?_ ?_
        · exact dk
        refine AW.ret ?_
        cases h
        exact fin
      · replace h := bif_f hb18 h
        refine AW.skip ?_
        refine AW.seq ?_
        refine AW.reg hS [(6, .pv (.int .i64 r7)), (7, .pv (.int .i64 r15)), (8, .pv (.int .i64 0))] [] ?_ ?_
        · exact dk
        refine AW.ret ?_
        cases h
        exact fin

set_option maxHeartbeats 4000000 in
theorem g_F42 {O : Orc} (hS : Sound env O) (hpf : O.pf = pfn) (c_F58 : C_F58 O) (l1 : List GEnv) (group2 : Int) (id3 : Int) (r4 : Int) (r5 : Int) (r6 : Int) (h : F42 l1 group2 id3 = some (r4, r5, r6)) : Good env 42 [.pv (.slice (List.map GEnv.pv l1)), .pv (.int .i64 group2), .pv (.int .i64 id3)] [] [.pv (.int .i64 r4), .pv (.int .i64 r5), .pv (.int .i64 r6)] [] := by
  have pf_58 : O.pf 58 = true := by rw [hpf]; rfl
  refine Good.start (fn := Tryz.f42) (N := 29) fn_42 rfl rfl (by simp) [] _ rfl rfl ?_
  rw [F42] at h
  refine AW.seq ?_
  refine AW.reg hS [(0, .pv (.slice (List.map GEnv.pv l1))), (1, .pv (.int .i64 group2)), (2, .pv (.int .i64 id3))] [] ?_ ?_
  · exact dk
  refine AW.seq ?_
  replace h := obs h; obtain ⟨⟨r7, r8, r9⟩, q10, h⟩ := h
  dsimp only at h
  have f11 := c_F58 l1 group2 id3 r7 r8 r9 q10
  try dsimp only at f11
  refine AW.reg hS [(9, .pv (.int .i64 r7)), (10, .pv (.int .i64 r8)), (11, .pv (.int .i64 r9))] [] ?_ ?_
  · exact dk1 (an pf_58 f11)
  refine AW.seq ?_
  refine AW.seq ?_
  refine AW.reg hS [(9, .pv (.int .i64 r7)), (10, .pv (.int .i64 r8)), (11, .pv (.int .i64 r9)), (25, .pv (.bool (decide (r9 = 0) && decide (r8 < 0))))] [] ?_ ?_
  · clear h
    exact dg
  refine AW.cond (b := (decide (r9 = 0) && decide (r8 < 0))) rfl (fun hb12 => ?_) (fun hb12 => ?_)
  · replace h := bif_t hb12 h
    refine AW.seq ?_
    refine AW.reg hS [(6, .pv (.int .i64 0)), (7, .pv (.int .i64 0)), (8, .pv (.int .i64 10))] [] ?_ ?_
    · exact dk
    refine AW.ret ?_
    cases h
    exact fin
  · replace h := bif_f hb12 h
    refine AW.skip ?_
    refine AW.seq ?_
    refine AW.reg hS [(6, .pv (.int .i64 r7)), (7, .pv (.int .i64 r8)), (8, .pv (.int .i64 r9))] [] ?_ ?_
    · exact dk
    refine AW.ret ?_
    cases h
    exact fin

set_option maxHeartbeats 4000000 in
theorem g_F43 {O : Orc} (hS : Sound env O) (hpf : O.pf = pfn) (c_L_Join : C_L_Join O) (v1 : Var) (r2 : Str) (h : F43 v1 = some r2) : Good env 43 [.pv (.agg [.int .i64 v1.id_, .str v1.name_, .slice (List.map PV.str v1.values_)])] [] [.pv (.str r2)] [] := by
  have pf_70 : O.pf 70 = true := by rw [hpf]; rfl
  refine Good.start (fn := Tryz.f43) (N := 6) fn_43 rfl rfl (by simp) [] _ rfl rfl ?_
  rw [F43] at h
  refine AW.seq ?_
  refine AW.reg hS [(1, .ref 0 0)] [.var [.pv (.int .i64 v1.id_), .pv (.str v1.name_), .pv (.slice (List.map PV.str v1.values_))]] ?_ ?_
  · exact dk
  refine AW.seq ?_
  replace h := obs h; obtain ⟨s3, q4, h⟩ := h
  have f5 := c_L_Join v1.values_ [0] s3 q4
  try dsimp only at f5
  try simp only [List.map_cons, List.map_nil, P23_eq, Var.pv_eq, P32_eq, GEnv.pv_eq, GOp.pv_eq] at f5
  refine AW.reg hS [(2, .pv (.str s3))] [.var [.pv (.int .i64 v1.id_), .pv (.str v1.name_), .pv (.slice (List.map PV.str v1.values_))]] ?_ ?_
  · exact dk1 (an pf_70 f5)
  refine AW.ret ?_
  cases h
  exact fin

set_option maxHeartbeats 4000000 in
theorem g_F15 {O : Orc} (hS : Sound env O) (hpf : O.pf = pfn) (c_F42 : C_F42 O) (c_F43 : C_F43 O) (l1 : List GEnv) (group2 : Int) (id3 : Int) (offset4 : Int) (count5 : Int) (r6 : Str) (r7 : Int) (h : F15 l1 group2 id3 offset4 count5 = some (r6, r7)) : Good env 15 [.pv (.slice (List.map GEnv.pv l1)), .pv (.int .i64 group2), .pv (.int .i64 id3), .pv (.int .i64 offset4), .pv (.int .i64 count5)] [] [.pv (.str r6), .pv (.int .i64 r7)] [] := by
  have pf_42 : O.pf 42 = true := by rw [hpf]; rfl
  have pf_43 : O.pf 43 = true := by rw [hpf]; rfl
  refine Good.start (fn := Tryz.f15) (N := 56) fn_15 rfl rfl (by simp) [] _ rfl rfl ?_
  rw [F15] at h
  refine AW.seq ?_
  refine AW.reg hS [(0, .pv (.slice (List.map GEnv.pv l1))), (1, .pv (.int .i64 group2)), (2, .pv (.int .i64 id3)), (3, .pv (.int .i64 offset4)), (4, .pv (.int .i64 count5))] [] ?_ ?_
  · exact dk
  refine AW.seq ?_
  replace h := obs h; obtain ⟨⟨r8, r9, r10⟩, q11, h⟩ := h
  dsimp only at h
  have f12 := c_F42 l1 group2 id3 r8 r9 r10 q11
  try dsimp only at f12
  refine AW.reg hS [(0, .pv (.slice (List.map GEnv.pv l1))), (3, .pv (.int .i64 offset4)), (4, .pv (.int .i64 count5)), (12, .pv (.int .i64 r8)), (13, .pv (.int .i64 r9)), (14, .pv (.int .i64 r10))] [] ?_ ?_
  · exact dk1 (an pf_42 f12)
  refine AW.seq ?_
  refine AW.block ?_
  refine AW.seq ?_
  refine AW.reg hS [(0, .pv (.slice (List.map GEnv.pv l1))), (3, .pv (.int .i64 offset4)), (4, .pv (.int .i64 count5)), (12, .pv (.int .i64 r8)), (13, .pv (.int .i64 r9)), (14, .pv (.int .i64 r10)), (24, .pv (.bool (!decide (r10 = 0))))] [] ?_ ?_
  · exact dk
  refine AW.cond (b := !decide (r10 = 0)) rfl (fun hb13 => ?_) (fun hb13 => ?_)
  · replace h := bif_t hb13 h
    refine AW.seq ?_
    refine AW.reg hS [(10, .pv (.str [])), (11, .pv (.int .i64 r10))] [] ?_ ?_
    · exact dk
    refine AW.ret ?_
    cases h
    exact fin
  · replace h := bif_f hb13 h
    refine AW.seq ?_
    refine AW.reg hS [(0, .pv (.slice (List.map GEnv.pv l1))), (3, .pv (.int .i64 offset4)), (4, .pv (.int .i64 count5)), (12, .pv (.int .i64 r8)), (13, .pv (.int .i64 r9)), (28, .pv (.bool (decide (offset4 < 0) || decide (count5 < 0))))] [] ?_ ?_
    · clear h
      exact dg
    refine AW.cond (b := (decide (offset4 < 0) || decide (count5 < 0))) rfl (fun hb14 => ?_) (fun hb14 => ?_)
    · replace h := bif_t hb14 h
      refine AW.seq ?_
      refine AW.reg hS [(10, .pv (.str [])), (11, .pv (.int .i64 1))] [] ?_ ?_
      · exact dk
      refine AW.ret ?_
      cases h
      exact fin
    · replace h := bif_f hb14 h
      refine AW.skip ?_
      refine AW.seq ?_
      replace h := obs h; obtain ⟨u15, q16, h⟩ := h
      have f17 := lidx_f q16
      replace h := obs h; obtain ⟨u18, q19, h⟩ := h
      have f20 := lidx_f q19
      replace h := obs h; obtain ⟨r21, q22, h⟩ := h
      have f23 := c_F43 u18 r21 q22
      try dsimp only at f23
      refine AW.reg hS [(3, .pv (.int .i64 offset4)), (4, .pv (.int .i64 count5)), (15, .pv (.str r21))] [] ?_ ?_
      · exact dk1 (an f17.1 (an f17.2.1 (an f20.1 (an f20.2.1 (an pf_43 f23)))))
      refine AW.seq ?_
      replace h := obs h; obtain ⟨t24, q25, h⟩ := h
      have f26 := sslice_f q25
      have f26e := f26.2.2.2.2
      try simp only [Int.toNat_natCast, Int.toNat_zero, List.drop_zero] at f26e
      have f26l := f26.2.2.1
      try simp only [Int.toNat_natCast, Int.toNat_zero] at f26l
      refine AW.reg hS [(4, .pv (.int .i64 count5)), (15, .pv (.str t24))] [] ?_ ?_
      · exact dkt1 (an f26.1 (an f26.2.1 (an f26l (an f26.2.2.2.1 f26e))))
      refine AW.seq ?_
      replace h := obs h; obtain ⟨t27, q28, h⟩ := h
      have f29 := sslice_f q28
      have f29e := f29.2.2.2.2
      try simp only [Int.toNat_natCast, Int.toNat_zero, List.drop_zero] at f29e
      have f29l := f29.2.2.1
      try simp only [Int.toNat_natCast, Int.toNat_zero] at f29l
      refine AW.reg hS [(10, .pv (.str t27)), (11, .pv (.int .i64 0))] [] ?_ ?_
      · exact dkt1 (an f29.1 (an f29.2.1 (an f29l (an f29.2.2.2.1 f29e))))
      refine AW.ret ?_
      cases h
      exact fin

set_option maxHeartbeats 4000000 in
theorem g_F19 {O : Orc} (hS : Sound env O) (hpf : O.pf = pfn) (c_L_Count : C_L_Count O) (c_L_Split : C_L_Split O) (s1 : Str) (r2 : List Str) (r3 : Int) (h : F19 s1 = some (r2, r3)) : Good env 19 [.pv (.str s1)] [] [.pv (.slice (List.map PV.str r2)), .pv (.int .i64 r3)] [] := by
  have pf_46 : O.pf 46 = true := by rw [hpf]; rfl
  have pf_47 : O.pf 47 = true := by rw [hpf]; rfl
  refine Good.start (fn := Tryz.f19) (N := 14) fn_19 rfl rfl (by simp) [] _ rfl rfl ?_
  rw [F19] at h
  refine AW.seq ?_
  refine AW.reg hS [(0, .pv (.str s1))] [] ?_ ?_
  · exact dk
  refine AW.seq ?_
  refine AW.block ?_
  refine AW.seq ?_
  refine AW.reg hS [(0, .pv (.str s1)), (4, .pv (.bool (decide (65536 < (s1.length : Int)))))] [] ?_ ?_
  · exact dk
  refine AW.cond (b := decide (65536 < (s1.length : Int))) rfl (fun hb4 => ?_) (fun hb4 => ?_)
  · replace h := bif_t hb4 h
    refine AW.seq ?_
    refine AW.reg hS [(2, .nils), (3, .pv (.int .i64 4))] [] ?_ ?_
    · exact dk
    refine AW.ret ?_
    cases h
    exact fin
  · replace h := bif_f hb4 h
    refine AW.seq ?_
    replace h := obs h; obtain ⟨n5, q6, h⟩ := h
    have f7 := c_L_Count s1 [0] n5 q6
    try dsimp only at f7
    try simp only [List.map_cons, List.map_nil, P23_eq, Var.pv_eq, P32_eq, GEnv.pv_eq, GOp.pv_eq] at f7
    refine AW.reg hS [(0, .pv (.str s1)), (8, .pv (.bool (decide (256 ≤ n5))))] [] ?_ ?_
    · exact dk1 (an pf_46 f7)
    refine AW.cond (b := decide (256 ≤ n5)) rfl (fun hb8 => ?_) (fun hb8 => ?_)
    · replace h := bif_t hb8 h
      refine AW.seq ?_
      refine AW.reg hS [(2, .nils), (3, .pv (.int .i64 22))] [] ?_ ?_
      · exact dk
      refine AW.ret ?_
      cases h
      exact fin
    · replace h := bif_f hb8 h
      refine AW.skip ?_
      refine AW.seq ?_
      replace h := obs h; obtain ⟨l9, q10, h⟩ := h
      have f11 := c_L_Split s1 [0] l9 q10
      try dsimp only at f11
      try simp only [List.map_cons, List.map_nil, P23_eq, Var.pv_eq, P32_eq, GEnv.pv_eq, GOp.pv_eq] at f11
      refine AW.reg hS [(2, .pv (.slice (List.map PV.str l9))), (3, .pv (.int .i64 0))] [] ?_ ?_
      · exact dk1 (an pf_47 f11)
      refine AW.ret ?_
      cases h
      exact fin

set_option maxHeartbeats 4000000 in
theorem g_F16 {O : Orc} (hS : Sound env O) (hpf : O.pf = pfn) (c_F32 : C_F32 O) (c_F42 : C_F42 O) (c_F43 : C_F43 O) (c_L_Repeat : C_L_Repeat O) (c_F19 : C_F19 O) (l1 : List GEnv) (group2 : Int) (id3 : Int) (offset4 : Int) (data5 : Str) (r6 : List GEnv) (r7 : Int) (r8 : Int) (h : F16 l1 group2 id3 offset4 data5 = some (r6, r7, r8)) : Good env 16 [.pv (.slice (List.map GEnv.pv l1)), .pv (.int .i64 group2), .pv (.int .i64 id3), .pv (.int .i64 offset4), .pv (.str data5)] [] [.pv (.slice (List.map GEnv.pv r6)), .pv (.int .i64 r7), .pv (.int .i64 r8)] [] := by
  have pf_19 : O.pf 19 = true := by rw [hpf]; rfl
  have pf_32 : O.pf 32 = false := by rw [hpf]; rfl
  have pf_42 : O.pf 42 = true := by rw [hpf]; rfl
  have pf_43 : O.pf 43 = true := by rw [hpf]; rfl
  have pf_44 : O.pf 44 = true := by rw [hpf]; rfl
  refine Good.start (fn := Tryz.f16) (N := 105) fn_16 rfl rfl (by simp) [] _ rfl rfl ?_
  rw [F16] at h
  refine AW.seq ?_
  refine AW.reg hS [(0, .pv (.slice (List.map GEnv.pv l1))), (1, .pv (.int .i64 group2)), (2, .pv (.int .i64 id3)), (3, .pv (.int .i64 offset4)), (4, .pv (.str data5))] [] ?_ ?_
  · exact dk
  refine AW.seq ?_
  replace h := obs h; obtain ⟨⟨r9, m10⟩, q11, h⟩ := h
  dsimp only at h
  have f12 := c_F32 l1 r9 m10 q11
  try dsimp only at f12
  have e13 : ecall O [] 32 [.pv (.slice (List.map GEnv.pv l1))] = some (retAV [.vec 0 (List.length r9)], [.tree 34 3 2 37 3 m10 (List.map GEnv.pv r9)]) := ecall_eq rfl rfl rfl f12 rfl rfl rfl
  refine AW.reg hS [(0, .pv (.slice (List.map GEnv.pv l1))), (1, .pv (.int .i64 group2)), (2, .pv (.int .i64 id3)), (3, .pv (.int .i64 offset4)), (4, .pv (.str data5)), (13, .vec 0 (List.length r9))] [.tree 34 3 2 37 3 m10 (List.map GEnv.pv r9)] ?_ ?_
  · exact dk1 (an pf_32 e13)
  refine AW.seq ?_
  replace h := obs h; obtain ⟨⟨r14, r15, r16⟩, q17, h⟩ := h
  dsimp only at h
  have f18 := c_F42 l1 group2 id3 r14 r15 r16 q17
  try dsimp only at f18
  refine AW.reg hS [(0, .pv (.slice (List.map GEnv.pv l1))), (3, .pv (.int .i64 offset4)), (4, .pv (.str data5)), (13, .vec 0 (List.length r9)), (14, .pv (.int .i64 r14)), (15, .pv (.int .i64 r15)), (16, .pv (.int .i64 r16))] [.tree 34 3 2 37 3 m10 (List.map GEnv.pv r9)] ?_ ?_
  · exact dk1 (an pf_42 f18)
  refine AW.seq ?_
  refine AW.block ?_
  refine AW.seq ?_
  refine AW.reg hS [(0, .pv (.slice (List.map GEnv.pv l1))), (3, .pv (.int .i64 offset4)), (4, .pv (.str data5)), (13, .vec 0 (List.length r9)), (14, .pv (.int .i64 r14)), (15, .pv (.int .i64 r15)), (16, .pv (.int .i64 r16)), (29, .pv (.bool (!decide (r16 = 0))))] [.tree 34 3 2 37 3 m10 (List.map GEnv.pv r9)] ?_ ?_
  · exact dk
  refine AW.cond (b := !decide (r16 = 0)) rfl (fun hb19 => ?_) (fun hb19 => ?_)
  · replace h := bif_t hb19 h
    refine AW.seq ?_
    refine AW.reg hS [(10, .vec 0 (List.length r9)), (11, .pv (.int .i64 0)), (12, .pv (.int .i64 r16))] [.tree 34 3 2 37 3 m10 (List.map GEnv.pv r9)] ?_ ?_
    · exact dk
    refine AW.weak (Weak.treeRow 0 rfl) ?_
    refine AW.weak (σ' := ⟨sl [(10, .vec 0 (List.length r9)), (11, .pv (.int .i64 0)), (12, .pv (.int .i64 r16))], 105, [.row 34 3 (List.map GEnv.pv r9) false]⟩) (Weak.of_eq (Weak.slots (L := [(10, .vec 0 (List.length r9)), (11, .pv (.int .i64 0)), (12, .pv (.int .i64 r16))]) ⟨rfl, rfl, rfl, trivial⟩) (by first | rfl | (simp only [List.length_set, List.length_map]; rfl))) ?_
    refine AW.weak (Weak.freeze 0 rfl) ?_
    refine AW.weak (σ' := ⟨sl [(10, .vec 0 (List.length r9)), (11, .pv (.int .i64 0)), (12, .pv (.int .i64 r16))], 105, [.row 34 3 (List.map GEnv.pv r9) true]⟩) (Weak.slots ⟨rfl, rfl, rfl, trivial⟩) ?_
    refine AW.ret ?_
    cases h
    exact fin
  · replace h := bif_f hb19 h
    refine AW.seq ?_
    refine AW.reg hS [(0, .pv (.slice (List.map GEnv.pv l1))), (3, .pv (.int .i64 offset4)), (4, .pv (.str data5)), (13, .vec 0 (List.length r9)), (14, .pv (.int .i64 r14)), (15, .pv (.int .i64 r15)), (34, .pv (.bool (decide (offset4 < 0))))] [.tree 34 3 2 37 3 m10 (List.map GEnv.pv r9)] ?_ ?_
    · exact dk
    refine AW.cond (b := decide (offset4 < 0)) rfl (fun hb20 => ?_) (fun hb20 => ?_)
    · replace h := bif_t hb20 h
      refine AW.seq ?_
      refine AW.reg hS [(10, .vec 0 (List.length r9)), (11, .pv (.int .i64 0)), (12, .pv (.int .i64 1))] [.tree 34 3 2 37 3 m10 (List.map GEnv.pv r9)] ?_ ?_
      · exact dk
      refine AW.weak (Weak.treeRow 0 rfl) ?_
      refine AW.weak (σ' := ⟨sl [(10, .vec 0 (List.length r9)), (11, .pv (.int .i64 0)), (12, .pv (.int .i64 1))], 105, [.row 34 3 (List.map GEnv.pv r9) false]⟩) (Weak.of_eq (Weak.slots (L := [(10, .vec 0 (List.length r9)), (11, .pv (.int .i64 0)), (12, .pv (.int .i64 1))]) ⟨rfl, rfl, rfl, trivial⟩) (by first | rfl | (simp only [List.length_set, List.length_map]; rfl))) ?_
      refine AW.weak (Weak.freeze 0 rfl) ?_
      refine AW.weak (σ' := ⟨sl [(10, .vec 0 (List.length r9)), (11, .pv (.int .i64 0)), (12, .pv (.int .i64 1))], 105, [.row 34 3 (List.map GEnv.pv r9) true]⟩) (Weak.slots ⟨rfl, rfl, rfl, trivial⟩) ?_
      refine AW.ret ?_
      cases h
      exact fin
    · replace h := bif_f hb20 h
      refine AW.seq ?_
      refine AW.reg hS [(0, .pv (.slice (List.map GEnv.pv l1))), (3, .pv (.int .i64 offset4)), (4, .pv (.str data5)), (13, .vec 0 (List.length r9)), (14, .pv (.int .i64 r14)), (15, .pv (.int .i64 r15)), (38, .pv (.bool (decide (data5 = []))))] [.tree 34 3 2 37 3 m10 (List.map GEnv.pv r9)] ?_ ?_
      · exact dk
      refine AW.cond (b := decide (data5 = [])) rfl (fun hb21 => ?_) (fun hb21 => ?_)
      · replace h := bif_t hb21 h
        refine AW.seq ?_
        refine AW.reg hS [(10, .vec 0 (List.length r9)), (11, .pv (.int .i64 0)), (12, .pv (.int .i64 0))] [.tree 34 3 2 37 3 m10 (List.map GEnv.pv r9)] ?_ ?_
        · exact dk
        refine AW.weak (Weak.treeRow 0 rfl) ?_
        refine AW.weak (σ' := ⟨sl [(10, .vec 0 (List.length r9)), (11, .pv (.int .i64 0)), (12, .pv (.int .i64 0))], 105, [.row 34 3 (List.map GEnv.pv r9) false]⟩) (Weak.of_eq (Weak.slots (L := [(10, .vec 0 (List.length r9)), (11, .pv (.int .i64 0)), (12, .pv (.int .i64 0))]) ⟨rfl, rfl, rfl, trivial⟩) (by first | rfl | (simp only [List.length_set, List.length_map]; rfl))) ?_
        refine AW.weak (Weak.freeze 0 rfl) ?_
        refine AW.weak (σ' := ⟨sl [(10, .vec 0 (List.length r9)), (11, .pv (.int .i64 0)), (12, .pv (.int .i64 0))], 105, [.row 34 3 (List.map GEnv.pv r9) true]⟩) (Weak.slots ⟨rfl, rfl, rfl, trivial⟩) ?_
        refine AW.ret ?_
        cases h
        exact fin
      · replace h := bif_f hb21 h
        refine AW.seq ?_
        refine AW.reg hS [(0, .pv (.slice (List.map GEnv.pv l1))), (3, .pv (.int .i64 offset4)), (4, .pv (.str data5)), (13, .vec 0 (List.length r9)), (14, .pv (.int .i64 r14)), (15, .pv (.int .i64 r15)), (42, .pv (.bool (decide (65536 < offset4) || decide (IntKind.wrap .i64 (65536 - offset4) < (data5.length : Int)))))] [.tree 34 3 2 37 3 m10 (List.map GEnv.pv r9)] ?_ ?_
        · clear h
          exact dg
        refine AW.cond (b := (decide (65536 < offset4) || decide (IntKind.wrap .i64 (65536 - offset4) < (data5.length : Int)))) rfl (fun hb22 => ?_) (fun hb22 => ?_)
        · replace h := bif_t hb22 h
          refine AW.seq ?_
          refine AW.reg hS [(10, .vec 0 (List.length r9)), (11, .pv (.int .i64 0)), (12, .pv (.int .i64 4))] [.tree 34 3 2 37 3 m10 (List.map GEnv.pv r9)] ?_ ?_
          · exact dk
          refine AW.weak (Weak.treeRow 0 rfl) ?_
          refine AW.weak (σ' := ⟨sl [(10, .vec 0 (List.length r9)), (11, .pv (.int .i64 0)), (12, .pv (.int .i64 4))], 105, [.row 34 3 (List.map GEnv.pv r9) false]⟩) (Weak.of_eq (Weak.slots (L := [(10, .vec 0 (List.length r9)), (11, .pv (.int .i64 0)), (12, .pv (.int .i64 4))]) ⟨rfl, rfl, rfl, trivial⟩) (by first | rfl | (simp only [List.length_set, List.length_map]; rfl))) ?_
          refine AW.weak (Weak.freeze 0 rfl) ?_
          refine AW.weak (σ' := ⟨sl [(10, .vec 0 (List.length r9)), (11, .pv (.int .i64 0)), (12, .pv (.int .i64 4))], 105, [.row 34 3 (List.map GEnv.pv r9) true]⟩) (Weak.slots ⟨rfl, rfl, rfl, trivial⟩) ?_
          refine AW.ret ?_
          cases h
          exact fin
        · replace h := bif_f hb22 h
          refine AW.skip ?_
          refine AW.seq ?_
          replace h := obs h; obtain ⟨u23, q24, h⟩ := h
          have f25 := lidx_f q24
          replace h := obs h; obtain ⟨u26, q27, h⟩ := h
          have f28 := lidx_f q27
          replace h := obs h; obtain ⟨r29, q30, h⟩ := h
          have f31 := c_F43 u26 r29 q30
          try dsimp only at f31
          refine AW.reg hS [(3, .pv (.int .i64 offset4)), (4, .pv (.str data5)), (13, .vec 0 (List.length r9)), (14, .pv (.int .i64 r14)), (15, .pv (.int .i64 r15)), (17, .pv (.str r29))] [.tree 34 3 2 37 3 m10 (List.map GEnv.pv r9)] ?_ ?_
          · exact dk1 (an f25.1 (an f25.2.1 (an f28.1 (an f28.2.1 (an pf_43 f31)))))
          refine AW.seq ?_
          replace h := obs h; obtain ⟨t32, q33, h⟩ := h
          have f34 := c_L_Repeat [0] (imax (IntKind.wrap .i64 (offset4 - (r29.length : Int))) 0) t32 q33
          try dsimp only at f34
          try simp only [List.map_cons, List.map_nil, P23_eq, Var.pv_eq, P32_eq, GEnv.pv_eq, GOp.pv_eq] at f34
          replace h := obs h; obtain ⟨s35, q36, h⟩ := h
          have f37 := catO_f q36
          try simp only [List.length_cons, List.length_nil, List.length_replicate, Nat.zero_add, Nat.reduceAdd, Nat.reduceLeDiff, Nat.add_zero, Nat.reduceMul] at f37
          refine AW.reg hS [(3, .pv (.int .i64 offset4)), (4, .pv (.str data5)), (13, .vec 0 (List.length r9)), (14, .pv (.int .i64 r14)), (15, .pv (.int .i64 r15)), (17, .pv (.str s35))] [.tree 34 3 2 37 3 m10 (List.map GEnv.pv r9)] ?_ ?_
          · exact dk1 (an pf_44 (an f34 (an f37.1 f37.2)))
          refine AW.seq ?_
          replace h := obs h; obtain ⟨t38, q39, h⟩ := h
          have f40 := sslice_f q39
          have f40e := f40.2.2.2.2
          try simp only [Int.toNat_natCast, Int.toNat_zero, List.drop_zero] at f40e
          have f40l := f40.2.2.1
          try simp only [Int.toNat_natCast, Int.toNat_zero] at f40l
          replace h := obs h; obtain ⟨s41, q42, h⟩ := h
          have f43 := catO_f q42
          try simp only [List.length_cons, List.length_nil, List.length_replicate, Nat.zero_add, Nat.reduceAdd, Nat.reduceLeDiff, Nat.add_zero, Nat.reduceMul] at f43
          replace h := obs h; obtain ⟨t44, q45, h⟩ := h
          have f46 := sslice_f q45
          have f46e := f46.2.2.2.2
          try simp only [Int.toNat_natCast, Int.toNat_zero, List.drop_zero] at f46e
          have f46l := f46.2.2.1
          try simp only [Int.toNat_natCast, Int.toNat_zero] at f46l
          replace h := obs h; obtain ⟨s47, q48, h⟩ := h
          have f49 := catO_f q48
          try simp only [List.length_cons, List.length_nil, List.length_replicate, Nat.zero_add, Nat.reduceAdd, Nat.reduceLeDiff, Nat.add_zero, Nat.reduceMul] at f49
          replace h := obs h; obtain ⟨⟨r50, r51⟩, q52, h⟩ := h
          dsimp only at h
          have f53 := c_F19 s47 r50 r51 q52
          try dsimp only at f53
          refine AW.dreg mixed hS (hpf ▸ (by kernel_rfl : orderOK pfn _ = true)) [(4, .pv (.str data5)), (13, .vec 0 (List.length r9)), (14, .pv (.int .i64 r14)), (15, .pv (.int .i64 r15)), (16, .pv (.int .i64 r51)), (18, .pv (.slice (List.map PV.str r50)))] [.tree 34 3 2 37 3 m10 (List.map GEnv.pv r9)] ?_ ?_
          · exact dkt1 (an f40.1 (an f40.2.1 (an f40l (an f40.2.2.2.1 (an f40e (an f43.1 (an f43.2 (an f46.1 (an f46.2.1 (an f46l (an f46.2.2.2.1 (an f46e (an f49.1 (an f49.2 (an pf_19 f53)))))))))))))))
          refine AW.seq ?_
          refine AW.seq ?_
          refine AW.reg hS [(4, .pv (.str data5)), (13, .vec 0 (List.length r9)), (14, .pv (.int .i64 r14)), (15, .pv (.int .i64 r15)), (16, .pv (.int .i64 r51)), (18, .pv (.slice (List.map PV.str r50))), (90, .pv (.bool (!decide (r51 = 0))))] [.tree 34 3 2 37 3 m10 (List.map GEnv.pv r9)] ?_ ?_
          · exact dk
          refine AW.cond (b := !decide (r51 = 0)) rfl (fun hb54 => ?_) (fun hb54 => ?_)
          · replace h := bif_t hb54 h
            refine AW.seq ?_
            refine AW.reg hS [(10, .vec 0 (List.length r9)), (11, .pv (.int .i64 0)), (12, .pv (.int .i64 r51))] [.tree 34 3 2 37 3 m10 (List.map GEnv.pv r9)] ?_ ?_
            · exact dk
            refine AW.weak (Weak.treeRow 0 rfl) ?_
            refine AW.weak (σ' := ⟨sl [(10, .vec 0 (List.length r9)), (11, .pv (.int .i64 0)), (12, .pv (.int .i64 r51))], 105, [.row 34 3 (List.map GEnv.pv r9) false]⟩) (Weak.of_eq (Weak.slots (L := [(10, .vec 0 (List.length r9)), (11, .pv (.int .i64 0)), (12, .pv (.int .i64 r51))]) ⟨rfl, rfl, rfl, trivial⟩) (by first | rfl | (simp only [List.length_set, List.length_map]; rfl))) ?_
            refine AW.weak (Weak.freeze 0 rfl) ?_
            refine AW.weak (σ' := ⟨sl [(10, .vec 0 (List.length r9)), (11, .pv (.int .i64 0)), (12, .pv (.int .i64 r51))], 105, [.row 34 3 (List.map GEnv.pv r9) true]⟩) (Weak.slots ⟨rfl, rfl, rfl, trivial⟩) ?_
            refine AW.ret ?_
            cases h
            exact fin
          · replace h := bif_f hb54 h
            refine AW.skip ?_
            refine AW.seq ?_
            replace h := obs h; obtain ⟨u55, q56, h⟩ := h
            have f57 := lidx_f q56
            replace h := obs h; obtain ⟨_, hoq4, h⟩ := h
            have hop4 := ltO_f hoq4
            refine AW.weak (Weak.open 0 (Int.toNat r14) (ys := List.map Var.pv u55.vars_) (cs := [.int .i64 u55.id_, .int .i64 u55.next_, .slice (List.map Var.pv u55.vars_)]) rfl hop4 (by rw [List.getElem?_map, f57.2.1]; rfl) rfl) ?_
            refine AW.weak (σ' := ⟨sl [(4, .pv (.str data5)), (13, .vec 0 (List.length r9)), (14, .pv (.int .i64 r14)), (15, .pv (.int .i64 r15)), (16, .pv (.int .i64 r51)), (18, .pv (.slice (List.map PV.str r50))), (90, .pv (.bool (!decide (r51 = 0))))], 105, [.hrow 34 3 (List.map GEnv.pv r9) (Int.toNat r14) 2 1 (List.length u55.vars_), .row 37 3 (List.map Var.pv u55.vars_) false]⟩) (Weak.of_eq (Weak.slots (L := [(4, .pv (.str data5)), (13, .vec 0 (List.length r9)), (14, .pv (.int .i64 r14)), (15, .pv (.int .i64 r15)), (16, .pv (.int .i64 r51)), (18, .pv (.slice (List.map PV.str r50))), (90, .pv (.bool (!decide (r51 = 0))))]) ⟨rfl, rfl, rfl, rfl, rfl, rfl, rfl, trivial⟩) (by first | rfl | (simp only [List.length_set, List.length_map]; rfl))) ?_
            replace h := obs h; obtain ⟨u58, q59, h⟩ := h
            have f60 := lidx_f q59
            refine AW.reg hS [(4, .pv (.str data5)), (13, .vec 0 (List.length r9))] [.hrow 34 3 (List.map GEnv.pv r9) (Int.toNat r14) 2 1 (List.length u55.vars_), .row 37 3 (List.map Var.pv (List.set u55.vars_ (Int.toNat r15) (Var.mk u58.id_ u58.name_ r50))) false] ?_ ?_
            · exact dk1 (an f57.1 (an f57.2.1 (an f57.2.2 (an f60.1 (an f60.2.1 f60.2.2)))))
            refine AW.seq ?_
            refine AW.reg hS [(10, .vec 0 (List.length r9)), (11, .pv (.int .i64 (data5.length : Int))), (12, .pv (.int .i64 0))] [.hrow 34 3 (List.map GEnv.pv r9) (Int.toNat r14) 2 1 (List.length u55.vars_), .row 37 3 (List.map Var.pv (List.set u55.vars_ (Int.toNat r15) (Var.mk u58.id_ u58.name_ r50))) false] ?_ ?_
            · exact dk
            refine AW.weak (Weak.freeze 1 rfl) ?_
            refine AW.weak (σ' := ⟨sl [(10, .vec 0 (List.length r9)), (11, .pv (.int .i64 (data5.length : Int))), (12, .pv (.int .i64 0))], 105, [.hrow 34 3 (List.map GEnv.pv r9) (Int.toNat r14) 2 1 (List.length u55.vars_), .row 37 3 (List.map Var.pv (List.set u55.vars_ (Int.toNat r15) (Var.mk u58.id_ u58.name_ r50))) true]⟩) (Weak.slots ⟨rfl, rfl, rfl, trivial⟩) ?_
            refine AW.weak (Weak.close 0 (cs := [.int .i64 u55.id_, .int .i64 u55.next_, .slice (List.map Var.pv u55.vars_)]) (xs' := List.map GEnv.pv (List.set r9 (Int.toNat r14) (GEnv.mk u55.id_ u55.next_ (List.set u55.vars_ (Int.toNat r15) (Var.mk u58.id_ u58.name_ r50))))) rfl rfl (by simp only [List.length_map, List.length_set]) (by rw [List.getElem?_map, f57.2.1]; rfl) (by simp only [List.map_set, List.set_cons_succ, List.set_cons_zero, P23_eq, Var.pv_eq, P32_eq, GEnv.pv_eq, GOp.pv_eq])) ?_
            refine AW.weak (σ' := ⟨sl [(10, .vec 0 (List.length (List.set r9 (Int.toNat r14) (GEnv.mk u55.id_ u55.next_ (List.set u55.vars_ (Int.toNat r15) (Var.mk u58.id_ u58.name_ r50)))))), (11, .pv (.int .i64 (data5.length : Int))), (12, .pv (.int .i64 0))], 105, [.row 34 3 (List.map GEnv.pv (List.set r9 (Int.toNat r14) (GEnv.mk u55.id_ u55.next_ (List.set u55.vars_ (Int.toNat r15) (Var.mk u58.id_ u58.name_ r50))))) false, .row 37 3 (List.map Var.pv (List.set u55.vars_ (Int.toNat r15) (Var.mk u58.id_ u58.name_ r50))) true]⟩) (Weak.of_eq (Weak.slots (L := [(10, .vec 0 (List.length r9)), (11, .pv (.int .i64 (data5.length : Int))), (12, .pv (.int .i64 0))]) ⟨rfl, rfl, rfl, trivial⟩) (by first | rfl | (simp only [List.length_set, List.length_map]; rfl))) ?_
            refine AW.weak (Weak.freeze 0 rfl) ?_
            refine AW.weak (σ' := ⟨sl [(10, .vec 0 (List.length (List.set r9 (Int.toNat r14) (GEnv.mk u55.id_ u55.next_ (List.set u55.vars_ (Int.toNat r15) (Var.mk u58.id_ u58.name_ r50)))))), (11, .pv (.int .i64 (data5.length : Int))), (12, .pv (.int .i64 0))], 105, [.row 34 3 (List.map GEnv.pv (List.set r9 (Int.toNat r14) (GEnv.mk u55.id_ u55.next_ (List.set u55.vars_ (Int.toNat r15) (Var.mk u58.id_ u58.name_ r50))))) true, .row 37 3 (List.map Var.pv (List.set u55.vars_ (Int.toNat r15) (Var.mk u58.id_ u58.name_ r50))) true]⟩) (Weak.slots ⟨rfl, rfl, rfl, trivial⟩) ?_
            refine AW.ret ?_
            cases h
            exact fin

set_option maxHeartbeats 4000000 in
theorem g_F65x2 {O : Orc} (hS : Sound env O) (hpf : O.pf = pfn) (c_F66 : C_F66 O) (s1 : List Var) (x2 : Str) (r3 : Int) (h : F65x2 s1 x2 = some r3) : Good env 65 [.pv (.slice (List.map Var.pv s1)), .fn 66 [0]] [.var [.pv (.str x2)]] [.pv (.int .i64 r3)] [.var [.pv (.str x2)]] := by
  have pf_66 : O.pf 66 = false := by rw [hpf]; rfl
  refine Good.start (fn := Tryz.f65) (N := 19) fn_65 rfl rfl (by simp) [] _ rfl rfl ?_
  rw [F65x2] at h
  refine AW.seq ?_
  refine AW.reg hS [(0, .pv (.slice (List.map Var.pv s1))), (1, .fn 66 [0])] [.var [.pv (.str x2)]] ?_ ?_
  · exact dk
  refine AW.seq ?_
  refine AW.seq ?_
  refine AW.reg hS [(0, .pv (.slice (List.map Var.pv s1))), (1, .fn 66 [0]), (7, .pv (.int .i64 (s1.length : Int))), (8, .pv (.int .i64 0))] [.var [.pv (.str x2)]] ?_ ?_
  · exact dk
  refine AW.block ?_
  refine AW.weak (Weak.slots (L := [(0, .pv (.slice (List.map Var.pv s1))), (1, .fn 66 [0]), (7, .pv (.int .i64 (s1.length : Int))), (8, .pv (.int .i64 0))]) ⟨rfl, rfl, rfl, rfl, trivial⟩) ?_
  refine AW.loopI (α := Nat × Int) (fun (_, i4) => ⟨sl [(0, .pv (.slice (List.map Var.pv s1))), (1, .fn 66 [0]), (7, .pv (.int .i64 (s1.length : Int))), (8, .pv (.int .i64 i4))], 19, [.var [.pv (.str x2)]]⟩) (fun x => iter (F65x2_b1 s1 x2) x.1 x.2 = some r3) (fun x => x.1) (BIG, 0) h ?_
  clear h
  intro ⟨n17, i4⟩ h
  replace h := iter_some h; obtain ⟨m7, rfl, h⟩ := h
  rw [F65x2_b1] at h
  try dsimp only at h
  show AW _ _ _ _ ⟨sl [(0, .pv (.slice (List.map Var.pv s1))), (1, .fn 66 [0]), (7, .pv (.int .i64 (s1.length : Int))), (8, .pv (.int .i64 i4))], 19, [.var [.pv (.str x2)]]⟩
  refine AW.seq ?_
  refine AW.reg hS [(0, .pv (.slice (List.map Var.pv s1))), (1, .fn 66 [0]), (7, .pv (.int .i64 (s1.length : Int))), (8, .pv (.int .i64 i4)), (9, .pv (.bool (decide (i4 < (s1.length : Int)))))] [.var [.pv (.str x2)]] ?_ ?_
  · exact dk
  refine AW.seq ?_
  refine AW.cond (b := decide (i4 < (s1.length : Int))) rfl (fun hb8 => ?_) (fun hb8 => ?_)
  · replace h := bif_t hb8 h
    refine AW.skip ?_
    refine AW.seq ?_
    refine AW.block ?_
    refine AW.seq ?_
    refine AW.reg hS [(0, .pv (.slice (List.map Var.pv s1))), (1, .fn 66 [0]), (5, .pv (.int .i64 i4)), (7, .pv (.int .i64 (s1.length : Int))), (8, .pv (.int .i64 i4))] [.var [.pv (.str x2)]] ?_ ?_
    · exact dk
    refine AW.seq ?_
    replace h := obs h; obtain ⟨u9, q10, h⟩ := h
    have f11 := lidx_f q10
    replace h := obs h; obtain ⟨r12, q13, h⟩ := h
    have f14 := c_F66 u9 x2 r12 q13
    try dsimp only at f14
    have e15 : ecall O [.var [.pv (.str x2)]] 66 [.pv (.agg [.int .i64 u9.id_, .str u9.name_, .slice (List.map PV.str u9.values_)]), .ref 0 0] = some (retAV [.pv (.bool r12)], [.var [.pv (.str x2)]]) := ecall_eq rfl rfl rfl f14 rfl rfl rfl
    refine AW.reg hS [(0, .pv (.slice (List.map Var.pv s1))), (1, .fn 66 [0]), (5, .pv (.int .i64 i4)), (7, .pv (.int .i64 (s1.length : Int))), (8, .pv (.int .i64 i4)), (16, .pv (.bool r12))] [.var [.pv (.str x2)]] ?_ ?_
    · exact dk1 (an f11.1 (an f11.2.1 (an pf_66 e15)))
    refine AW.cond (b := r12) rfl (fun hb16 => ?_) (fun hb16 => ?_)
    · replace h := bif_t hb16 h
      refine AW.seq ?_
      refine AW.reg hS [(4, .pv (.int .i64 i4))] [.var [.pv (.str x2)]] ?_ ?_
      · exact dk
      refine AW.ret ?_
      cases h
      exact fin
    · replace h := bif_f hb16 h
      refine AW.skip ?_
      refine AW.reg hS [(0, .pv (.slice (List.map Var.pv s1))), (1, .fn 66 [0]), (7, .pv (.int .i64 (s1.length : Int))), (8, .pv (.int .i64 (IntKind.wrap .i64 (i4 + 1))))] [.var [.pv (.str x2)]] ?_ ?_
      · exact dk
      exact ⟨(m7, IntKind.wrap .i64 (i4 + 1)), h, (Weak.norm (m := 1) (Nat.le_of_ble_eq_true rfl) ⟨rfl, rfl, rfl, rfl, trivial⟩ rfl rfl rfl), Nat.lt_succ_self _⟩
  · replace h := bif_f hb8 h
    refine AW.exit ?_
    refine AW.seq ?_
    refine AW.reg hS [(4, .pv (.int .i64 (-1)))] [.var [.pv (.str x2)]] ?_ ?_
    · exact dk
    refine AW.ret ?_
    cases h
    exact fin

set_option maxHeartbeats 4000000 in
theorem g_F37x1 {O : Orc} (hS : Sound env O) (hpf : O.pf = pfn) (c_F65x2 : C_F65x2 O) (g1 : GEnv) (name2 : Str) (r3 : Int) (h : F37x1 g1 name2 = some r3) : Good env 37 [.pv (.agg [.int .i64 g1.id_, .int .i64 g1.next_, .slice (List.map Var.pv g1.vars_)]), .pv (.str name2)] [] [.pv (.int .i64 r3)] [] := by
  have pf_65 : O.pf 65 = false := by rw [hpf]; rfl
  refine Good.start (fn := Tryz.f37) (N := 9) fn_37 rfl rfl (by simp) [] _ rfl rfl ?_
  rw [F37x1] at h
  refine AW.seq ?_
  refine AW.reg hS [(2, .ref 0 0), (3, .ref 1 0)] [.var [.pv (.int .i64 g1.id_), .pv (.int .i64 g1.next_), .pv (.slice (List.map Var.pv g1.vars_))], .var [.pv (.str name2)]] ?_ ?_
  · exact dk
  refine AW.seq ?_
  replace h := obs h; obtain ⟨r4, q5, h⟩ := h
  have f6 := c_F65x2 g1.vars_ name2 r4 q5
  try dsimp only at f6
  have e7 : ecall O [.var [.pv (.int .i64 g1.id_), .pv (.int .i64 g1.next_), .pv (.slice (List.map Var.pv g1.vars_))], .var [.pv (.str name2)]] 65 [.pv (.slice (List.map Var.pv g1.vars_)), .fn 66 [1]] = some (retAV [.pv (.int .i64 r4)], [.var [.pv (.int .i64 g1.id_), .pv (.int .i64 g1.next_), .pv (.slice (List.map Var.pv g1.vars_))], .var [.pv (.str name2)]]) := ecall_eq rfl rfl rfl f6 rfl rfl rfl
  refine AW.reg hS [(4, .pv (.int .i64 r4))] [.var [.pv (.int .i64 g1.id_), .pv (.int .i64 g1.next_), .pv (.slice (List.map Var.pv g1.vars_))], .var [.pv (.str name2)]] ?_ ?_
  · exact dk1 (an pf_65 e7)
  refine AW.ret ?_
  cases h
  exact fin

set_option maxHeartbeats 4000000 in
theorem g_F17 {O : Orc} (hS : Sound env O) (hpf : O.pf = pfn) (c_F33 : C_F33 O) (c_F37x1 : C_F37x1 O) (c_L_Clone : C_L_Clone O) (l1 : List GEnv) (group2 : Int) (name3 : Str) (r4 : List Str) (r5 : Bool) (h : F17 l1 group2 name3 = some (r4, r5)) : Good env 17 [.pv (.slice (List.map GEnv.pv l1)), .pv (.int .i64 group2), .pv (.str name3)] [] [.pv (.slice (List.map PV.str r4)), .pv (.bool r5)] [] := by
  have pf_33 : O.pf 33 = true := by rw [hpf]; rfl
  have pf_37 : O.pf 37 = false := by rw [hpf]; rfl
  have pf_40 : O.pf 40 = true := by rw [hpf]; rfl
  refine Good.start (fn := Tryz.f17) (N := 33) fn_17 rfl rfl (by simp) [] _ rfl rfl ?_
  rw [F17] at h
  refine AW.seq ?_
  refine AW.reg hS [(0, .pv (.slice (List.map GEnv.pv l1))), (1, .pv (.int .i64 group2)), (2, .pv (.str name3))] [] ?_ ?_
  · exact dk
  refine AW.seq ?_
  replace h := obs h; obtain ⟨r6, q7, h⟩ := h
  have f8 := c_F33 l1 group2 r6 q7
  try dsimp only at f8
  refine AW.reg hS [(0, .pv (.slice (List.map GEnv.pv l1))), (2, .pv (.str name3)), (8, .pv (.int .i64 r6))] [] ?_ ?_
  · exact dk1 (an pf_33 f8)
  refine AW.seq ?_
  refine AW.seq ?_
  refine AW.reg hS [(0, .pv (.slice (List.map GEnv.pv l1))), (2, .pv (.str name3)), (8, .pv (.int .i64 r6)), (14, .pv (.bool (decide (r6 < 0))))] [] ?_ ?_
  · exact dk
  refine AW.cond (b := decide (r6 < 0)) rfl (fun hb9 => ?_) (fun hb9 => ?_)
  · replace h := bif_t hb9 h
    refine AW.seq ?_
    refine AW.reg hS [(6, .nils), (7, .pv (.bool false))] [] ?_ ?_
    · exact dk
    refine AW.ret ?_
    cases h
    exact fin
  · replace h := bif_f hb9 h
    refine AW.skip ?_
    refine AW.seq ?_
    replace h := obs h; obtain ⟨u10, q11, h⟩ := h
    have f12 := lidx_f q11
    replace h := obs h; obtain ⟨r13, q14, h⟩ := h
    have f15 := c_F37x1 u10 name3 r13 q14
    try dsimp only at f15
    have e16 : ecall O [] 37 [.pv (.agg [.int .i64 u10.id_, .int .i64 u10.next_, .slice (List.map Var.pv u10.vars_)]), .pv (.str name3)] = some (retAV [.pv (.int .i64 r13)], []) := ecall_eq rfl rfl rfl f15 rfl rfl rfl
    refine AW.reg hS [(0, .pv (.slice (List.map GEnv.pv l1))), (8, .pv (.int .i64 r6)), (9, .pv (.int .i64 r13))] [] ?_ ?_
    · exact dk1 (an f12.1 (an f12.2.1 (an pf_37 e16)))
    refine AW.seq ?_
    refine AW.seq ?_
    refine AW.reg hS [(0, .pv (.slice (List.map GEnv.pv l1))), (8, .pv (.int .i64 r6)), (9, .pv (.int .i64 r13)), (22, .pv (.bool (decide (r13 < 0))))] [] ?_ ?_
    · exact dk
    refine AW.cond (b := decide (r13 < 0)) rfl (fun hb17 => ?_) (fun hb17 => ?_)
    · replace h := bif_t hb17 h
      refine AW.seq ?_
      refine AW.reg hS [(6, .nils), (7, .pv (.bool false))] [] ?_ ?_
      · exact dk
      refine AW.ret ?_
      cases h
      exact fin
    · replace h := bif_f hb17 h
      refine AW.skip ?_
      refine AW.seq ?_
      replace h := obs h; obtain ⟨u18, q19, h⟩ := h
      have f20 := lidx_f q19
      replace h := obs h; obtain ⟨l21, q22, h⟩ := h
      have f23 := c_L_Clone u18.values_ l21 q22
      try dsimp only at f23
      refine AW.reg hS [(6, .pv (.slice (List.map PV.str l21))), (7, .pv (.bool true))] [] ?_ ?_
      · exact dk1 (an f12.1 (an f12.2.1 (an f20.1 (an f20.2.1 (an pf_40 f23)))))
      refine AW.ret ?_
      cases h
      exact fin

set_option maxHeartbeats 4000000 in
theorem g_F45 {O : Orc} (hS : Sound env O) (hpf : O.pf = pfn) (c_F58 : C_F58 O) (l1 : List GEnv) (group2 : Int) (id3 : Int) (r4 : Int) (r5 : Int) (h : F45 l1 group2 id3 = some (r4, r5)) : Good env 45 [.pv (.slice (List.map GEnv.pv l1)), .pv (.int .i64 group2), .pv (.int .i64 id3)] [] [.pv (.int .i64 r4), .pv (.int .i64 r5)] [] := by
  have pf_58 : O.pf 58 = true := by rw [hpf]; rfl
  refine Good.start (fn := Tryz.f45) (N := 27) fn_45 rfl rfl (by simp) [] _ rfl rfl ?_
  rw [F45] at h
  refine AW.seq ?_
  refine AW.reg hS [(0, .pv (.slice (List.map GEnv.pv l1))), (1, .pv (.int .i64 group2)), (2, .pv (.int .i64 id3))] [] ?_ ?_
  · exact dk
  refine AW.seq ?_
  replace h := obs h; obtain ⟨⟨r6, r7, r8⟩, q9, h⟩ := h
  dsimp only at h
  have f10 := c_F58 l1 group2 id3 r6 r7 r8 q9
  try dsimp only at f10
  refine AW.reg hS [(8, .pv (.int .i64 r6)), (9, .pv (.int .i64 r7)), (10, .pv (.int .i64 r8))] [] ?_ ?_
  · exact dk1 (an pf_58 f10)
  refine AW.seq ?_
  refine AW.seq ?_
  refine AW.reg hS [(8, .pv (.int .i64 r6)), (10, .pv (.int .i64 r8)), (24, .pv (.bool (decide (r8 = 0) && decide (0 ≤ r7))))] [] ?_ ?_
  · clear h
    exact dg
  refine AW.cond (b := (decide (r8 = 0) && decide (0 ≤ r7))) rfl (fun hb11 => ?_) (fun hb11 => ?_)
  · replace h := bif_t hb11 h
    refine AW.seq ?_
    refine AW.reg hS [(6, .pv (.int .i64 0)), (7, .pv (.int .i64 9))] [] ?_ ?_
    · exact dk
    refine AW.ret ?_
    cases h
    exact fin
  · replace h := bif_f hb11 h
    refine AW.skip ?_
    refine AW.seq ?_
    refine AW.reg hS [(6, .pv (.int .i64 r6)), (7, .pv (.int .i64 r8))] [] ?_ ?_
    · exact dk
    refine AW.ret ?_
    cases h
    exact fin

set_option maxHeartbeats 4000000 in
theorem g_F18 {O : Orc} (hS : Sound env O) (hpf : O.pf = pfn) (c_F45 : C_F45 O) (c_F37x1 : C_F37x1 O) (l1 : List GEnv) (group2 : Int) (id3 : Int) (name4 : Str) (r5 : Int) (r6 : Int) (h : F18 l1 group2 id3 name4 = some (r5, r6)) : Good env 18 [.pv (.slice (List.map GEnv.pv l1)), .pv (.int .i64 group2), .pv (.int .i64 id3), .pv (.str name4)] [] [.pv (.int .i64 r5), .pv (.int .i64 r6)] [] := by
  have pf_37 : O.pf 37 = false := by rw [hpf]; rfl
  have pf_45 : O.pf 45 = true := by rw [hpf]; rfl
  refine Good.start (fn := Tryz.f18) (N := 42) fn_18 rfl rfl (by simp) [] _ rfl rfl ?_
  rw [F18] at h
  refine AW.seq ?_
  refine AW.reg hS [(0, .pv (.slice (List.map GEnv.pv l1))), (1, .pv (.int .i64 group2)), (2, .pv (.int .i64 id3)), (3, .pv (.str name4))] [] ?_ ?_
  · exact dk
  refine AW.seq ?_
  replace h := obs h; obtain ⟨⟨r7, r8⟩, q9, h⟩ := h
  dsimp only at h
  have f10 := c_F45 l1 group2 id3 r7 r8 q9
  try dsimp only at f10
  refine AW.reg hS [(0, .pv (.slice (List.map GEnv.pv l1))), (3, .pv (.str name4)), (10, .pv (.int .i64 r7)), (11, .pv (.int .i64 r8))] [] ?_ ?_
  · exact dk1 (an pf_45 f10)
  refine AW.seq ?_
  refine AW.seq ?_
  refine AW.reg hS [(0, .pv (.slice (List.map GEnv.pv l1))), (3, .pv (.str name4)), (10, .pv (.int .i64 r7)), (11, .pv (.int .i64 r8)), (21, .pv (.bool (!decide (r8 = 0))))] [] ?_ ?_
  · exact dk
  refine AW.cond (b := !decide (r8 = 0)) rfl (fun hb11 => ?_) (fun hb11 => ?_)
  · replace h := bif_t hb11 h
    refine AW.seq ?_
    refine AW.reg hS [(8, .pv (.int .i64 0)), (9, .pv (.int .i64 r8))] [] ?_ ?_
    · exact dk
    refine AW.ret ?_
    cases h
    exact fin
  · replace h := bif_f hb11 h
    refine AW.skip ?_
    refine AW.seq ?_
    refine AW.seq ?_
    refine AW.reg hS [(0, .pv (.slice (List.map GEnv.pv l1))), (3, .pv (.str name4)), (10, .pv (.int .i64 r7)), (24, .pv (.bool (decide (name4 = [46, 46]))))] [] ?_ ?_
    · exact dk
    refine AW.cond (b := decide (name4 = [46, 46])) rfl (fun hb12 => ?_) (fun hb12 => ?_)
    · replace h := bif_t hb12 h
      refine AW.seq ?_
      refine AW.reg hS [(8, .pv (.int .i64 1)), (9, .pv (.int .i64 0))] [] ?_ ?_
      · exact dk
      refine AW.ret ?_
      cases h
      exact fin
    · replace h := bif_f hb12 h
      refine AW.skip ?_
      refine AW.seq ?_
      replace h := obs h; obtain ⟨u13, q14, h⟩ := h
      have f15 := lidx_f q14
      replace h := obs h; obtain ⟨r16, q17, h⟩ := h
      have f18 := c_F37x1 u13 name4 r16 q17
      try dsimp only at f18
      have e19 : ecall O [] 37 [.pv (.agg [.int .i64 u13.id_, .int .i64 u13.next_, .slice (List.map Var.pv u13.vars_)]), .pv (.str name4)] = some (retAV [.pv (.int .i64 r16)], []) := ecall_eq rfl rfl rfl f18 rfl rfl rfl
      refine AW.reg hS [(0, .pv (.slice (List.map GEnv.pv l1))), (10, .pv (.int .i64 r7)), (12, .pv (.int .i64 r16))] [] ?_ ?_
      · exact dk1 (an f15.1 (an f15.2.1 (an pf_37 e19)))
      refine AW.seq ?_
      refine AW.seq ?_
      refine AW.reg hS [(0, .pv (.slice (List.map GEnv.pv l1))), (10, .pv (.int .i64 r7)), (12, .pv (.int .i64 r16)), (32, .pv (.bool (decide (r16 < 0))))] [] ?_ ?_
      · exact dk
      refine AW.cond (b := decide (r16 < 0)) rfl (fun hb20 => ?_) (fun hb20 => ?_)
      · replace h := bif_t hb20 h
        refine AW.seq ?_
        refine AW.reg hS [(8, .pv (.int .i64 0)), (9, .pv (.int .i64 8))] [] ?_ ?_
        · exact dk
        refine AW.ret ?_
        cases h
        exact fin
      · replace h := bif_f hb20 h
        refine AW.skip ?_
        refine AW.seq ?_
        replace h := obs h; obtain ⟨u21, q22, h⟩ := h
        have f23 := lidx_f q22
        refine AW.reg hS [(8, .pv (.int .i64 u21.id_)), (9, .pv (.int .i64 0))] [] ?_ ?_
        · exact dk1 (an f15.1 (an f15.2.1 (an f23.1 f23.2.1)))
        refine AW.ret ?_
        cases h
        exact fin

set_option maxHeartbeats 4000000 in
theorem g_F20 {O : Orc} (hS : Sound env O) (hpf : O.pf = pfn) (a1 : List Str) (b2 : List Str) (r3 : Bool) (h : F20 a1 b2 = some r3) : Good env 20 [.pv (.slice (List.map PV.str a1)), .pv (.slice (List.map PV.str b2))] [] [.pv (.bool r3)] [] := by
  refine Good.start (fn := Tryz.f20) (N := 26) fn_20 rfl rfl (by simp) [] _ rfl rfl ?_
  rw [F20] at h
  refine AW.seq ?_
  refine AW.reg hS [(0, .pv (.slice (List.map PV.str a1))), (1, .pv (.slice (List.map PV.str b2)))] [] ?_ ?_
  · exact dk
  refine AW.seq ?_
  refine AW.seq ?_
  refine AW.reg hS [(0, .pv (.slice (List.map PV.str a1))), (1, .pv (.slice (List.map PV.str b2))), (10, .pv (.bool (!decide ((a1.length : Int) = (b2.length : Int)))))] [] ?_ ?_
  · exact dk
  refine AW.cond (b := !decide ((a1.length : Int) = (b2.length : Int))) rfl (fun hb4 => ?_) (fun hb4 => ?_)
  · replace h := bif_t hb4 h
    refine AW.seq ?_
    refine AW.reg hS [(4, .pv (.bool false))] [] ?_ ?_
    · exact dk
    refine AW.ret ?_
    cases h
    exact fin
  · replace h := bif_f hb4 h
    refine AW.skip ?_
    refine AW.seq ?_
    refine AW.seq ?_
    refine AW.reg hS [(0, .pv (.slice (List.map PV.str a1))), (1, .pv (.slice (List.map PV.str b2))), (5, .pv (.int .i64 0))] [] ?_ ?_
    · exact dk
    refine AW.block ?_
    refine AW.weak (Weak.slots (L := [(0, .pv (.slice (List.map PV.str a1))), (1, .pv (.slice (List.map PV.str b2))), (5, .pv (.int .i64 0))]) ⟨rfl, rfl, rfl, trivial⟩) ?_
    refine AW.loopI (α := Nat × Int) (fun (_, i5) => ⟨sl [(0, .pv (.slice (List.map PV.str a1))), (1, .pv (.slice (List.map PV.str b2))), (5, .pv (.int .i64 i5))], 26, []⟩) (fun x => iter (F20_b1 a1 b2) x.1 x.2 = some r3) (fun x => x.1) (BIG, 0) h ?_
    clear h
    intro ⟨n17, i5⟩ h
    replace h := iter_some h; obtain ⟨m8, rfl, h⟩ := h
    rw [F20_b1] at h
    try dsimp only at h
    show AW _ _ _ _ ⟨sl [(0, .pv (.slice (List.map PV.str a1))), (1, .pv (.slice (List.map PV.str b2))), (5, .pv (.int .i64 i5))], 26, []⟩
    refine AW.seq ?_
    refine AW.seq ?_
    refine AW.reg hS [(0, .pv (.slice (List.map PV.str a1))), (1, .pv (.slice (List.map PV.str b2))), (5, .pv (.int .i64 i5)), (14, .pv (.bool (decide (i5 < (a1.length : Int)))))] [] ?_ ?_
    · exact dk
    refine AW.cond (b := decide (i5 < (a1.length : Int))) rfl (fun hb9 => ?_) (fun hb9 => ?_)
    · replace h := bif_t hb9 h
      refine AW.skip ?_
      refine AW.seq ?_
      refine AW.block ?_
      refine AW.seq ?_
      replace h := obs h; obtain ⟨w10, q11, h⟩ := h
      have f12 := lidx_f q11
      replace h := obs h; obtain ⟨w13, q14, h⟩ := h
      have f15 := lidx_f q14
      refine AW.dreg mixed hS (hpf ▸ (by kernel_rfl : orderOK pfn _ = true)) [(0, .pv (.slice (List.map PV.str a1))), (1, .pv (.slice (List.map PV.str b2))), (5, .pv (.int .i64 i5)), (25, .pv (.bool (!decide (w10 = w13))))] [] ?_ ?_
      · exact dk1 (an f12.1 (an f12.2.1 (an f15.1 f15.2.1)))
      refine AW.cond (b := !decide (w10 = w13)) rfl (fun hb16 => ?_) (fun hb16 => ?_)
      · replace h := bif_t hb16 h
        refine AW.seq ?_
        refine AW.reg hS [(4, .pv (.bool false))] [] ?_ ?_
        · exact dk
        refine AW.ret ?_
        cases h
        exact fin
      · replace h := bif_f hb16 h
        refine AW.skip ?_
        refine AW.reg hS [(0, .pv (.slice (List.map PV.str a1))), (1, .pv (.slice (List.map PV.str b2))), (5, .pv (.int .i64 (IntKind.wrap .i64 (i5 + 1))))] [] ?_ ?_
        · exact dk
        exact ⟨(m8, IntKind.wrap .i64 (i5 + 1)), h, (Weak.norm (m := 0) (Nat.le_of_ble_eq_true rfl) ⟨rfl, rfl, rfl, trivial⟩ rfl rfl rfl), Nat.lt_succ_self _⟩
    · replace h := bif_f hb9 h
      refine AW.exit ?_
      refine AW.seq ?_
      refine AW.reg hS [(4, .pv (.bool true))] [] ?_ ?_
      · exact dk
      refine AW.ret ?_
      cases h
      exact fin

set_option maxHeartbeats 4000000 in
theorem g_F48 {O : Orc} (hS : Sound env O) (hpf : O.pf = pfn) (c_F36 : C_F36 O) (c_F37x1 : C_F37x1 O) (c_F39 : C_F39 O) (g1 : GEnv) (r2 : Bool) (h : F48 g1 = some r2) : Good env 48 [.pv (.agg [.int .i64 g1.id_, .int .i64 g1.next_, .slice (List.map Var.pv g1.vars_)])] [] [.pv (.bool r2)] [] := by
  have pf_36 : O.pf 36 = true := by rw [hpf]; rfl
  have pf_37 : O.pf 37 = false := by rw [hpf]; rfl
  have pf_39 : O.pf 39 = true := by rw [hpf]; rfl
  refine Good.start (fn := Tryz.f48) (N := 88) fn_48 rfl rfl (by simp) [] _ rfl rfl ?_
  rw [F48] at h
  refine AW.seq ?_
  refine AW.reg hS [(1, .ref 0 0)] [.var [.pv (.int .i64 g1.id_), .pv (.int .i64 g1.next_), .pv (.slice (List.map Var.pv g1.vars_))]] ?_ ?_
  · exact dk
  refine AW.seq ?_
  refine AW.seq ?_
  refine AW.reg hS [(1, .ref 0 0), (30, .pv (.bool ((((decide (g1.id_ < 1) || decide (1099511627776 < g1.id_)) || decide (g1.next_ < 2)) || decide (1048576 < g1.next_)) || decide (64 < (g1.vars_.length : Int)))))] [.var [.pv (.int .i64 g1.id_), .pv (.int .i64 g1.next_), .pv (.slice (List.map Var.pv g1.vars_))]] ?_ ?_
  · clear h
    exact dg
  refine AW.cond (b := ((((decide (g1.id_ < 1) || decide (1099511627776 < g1.id_)) || decide (g1.next_ < 2)) || decide (1048576 < g1.next_)) || decide (64 < (g1.vars_.length : Int)))) rfl (fun hb3 => ?_) (fun hb3 => ?_)
  · replace h := bif_t hb3 h
    refine AW.seq ?_
    refine AW.reg hS [(2, .pv (.bool false))] [.var [.pv (.int .i64 g1.id_), .pv (.int .i64 g1.next_), .pv (.slice (List.map Var.pv g1.vars_))]] ?_ ?_
    · exact dk
    refine AW.ret ?_
    cases h
    exact fin
  · replace h := bif_f hb3 h
    refine AW.skip ?_
    refine AW.seq ?_
    refine AW.seq ?_
    refine AW.reg hS [(1, .ref 0 0), (32, .pv (.slice (List.map Var.pv g1.vars_))), (33, .pv (.int .i64 (g1.vars_.length : Int))), (34, .pv (.int .i64 0))] [.var [.pv (.int .i64 g1.id_), .pv (.int .i64 g1.next_), .pv (.slice (List.map Var.pv g1.vars_))]] ?_ ?_
    · exact dk
    refine AW.block ?_
    refine AW.weak (Weak.slots (L := [(1, .ref 0 0), (32, .pv (.slice (List.map Var.pv g1.vars_))), (33, .pv (.int .i64 (g1.vars_.length : Int))), (34, .pv (.int .i64 0))]) ⟨rfl, rfl, rfl, rfl, trivial⟩) ?_
    refine AW.loopI (α := Nat × Int) (fun (_, i4) => ⟨sl [(1, .ref 0 0), (32, .pv (.slice (List.map Var.pv g1.vars_))), (33, .pv (.int .i64 (g1.vars_.length : Int))), (34, .pv (.int .i64 i4))], 88, [.var [.pv (.int .i64 g1.id_), .pv (.int .i64 g1.next_), .pv (.slice (List.map Var.pv g1.vars_))]]⟩) (fun x => iter (F48_b1 g1) x.1 x.2 = some r2) (fun x => x.1) (BIG, 0) h ?_
    clear h
    intro ⟨n28, i4⟩ h
    replace h := iter_some h; obtain ⟨m7, rfl, h⟩ := h
    rw [F48_b1] at h
    try dsimp only at h
    show AW _ _ _ _ ⟨sl [(1, .ref 0 0), (32, .pv (.slice (List.map Var.pv g1.vars_))), (33, .pv (.int .i64 (g1.vars_.length : Int))), (34, .pv (.int .i64 i4))], 88, [.var [.pv (.int .i64 g1.id_), .pv (.int .i64 g1.next_), .pv (.slice (List.map Var.pv g1.vars_))]]⟩
    refine AW.seq ?_
    refine AW.reg hS [(1, .ref 0 0), (32, .pv (.slice (List.map Var.pv g1.vars_))), (33, .pv (.int .i64 (g1.vars_.length : Int))), (34, .pv (.int .i64 i4)), (35, .pv (.bool (decide (i4 < (g1.vars_.length : Int)))))] [.var [.pv (.int .i64 g1.id_), .pv (.int .i64 g1.next_), .pv (.slice (List.map Var.pv g1.vars_))]] ?_ ?_
    · exact dk
    refine AW.seq ?_
    refine AW.cond (b := decide (i4 < (g1.vars_.length : Int))) rfl (fun hb8 => ?_) (fun hb8 => ?_)
    · replace h := bif_t hb8 h
      refine AW.skip ?_
      refine AW.seq ?_
      refine AW.block ?_
      refine AW.seq ?_
      replace h := obs h; obtain ⟨u9, q10, h⟩ := h
      have f11 := lidx_f q10
      refine AW.reg hS [(1, .ref 0 0), (3, .pv (.int .i64 i4)), (4, .ref 1 0), (32, .pv (.slice (List.map Var.pv g1.vars_))), (33, .pv (.int .i64 (g1.vars_.length : Int))), (34, .pv (.int .i64 i4))] [.var [.pv (.int .i64 g1.id_), .pv (.int .i64 g1.next_), .pv (.slice (List.map Var.pv g1.vars_))], .var [.pv (.int .i64 u9.id_), .pv (.str u9.name_), .pv (.slice (List.map PV.str u9.values_))]] ?_ ?_
      · exact dk1 (an f11.1 f11.2.1)
      refine AW.seq ?_
      refine AW.seq ?_
      replace h := obs h; obtain ⟨u12, q13, h⟩ := h
      have f14 := lidx_g (guardO_t q13)
      replace h := obs h; obtain ⟨r15, q16, h⟩ := h
      have f17 := fun hg => c_F36 u9.name_ r15 (guardO_t q16 hg)
      try dsimp only at f17
      refine AW.cases ((((decide (u9.id_ < 2) || decide (g1.next_ ≤ u9.id_)) || (decide (0 < i4) && decide (u9.id_ ≤ u12.id_))) || !r15)) (fun hsp8 => ?_) (fun hsp8 => ?_)
      · replace h := bif_t hsp8 h
        refine AW.dreg mixed hS (hpf ▸ (by kernel_rfl : orderOK pfn _ = true)) [(1, .ref 0 0), (4, .ref 1 0), (32, .pv (.slice (List.map Var.pv g1.vars_))), (33, .pv (.int .i64 (g1.vars_.length : Int))), (34, .pv (.int .i64 i4)), (78, .pv (.bool true))] [.var [.pv (.int .i64 g1.id_), .pv (.int .i64 g1.next_), .pv (.slice (List.map Var.pv g1.vars_))], .var [.pv (.int .i64 u9.id_), .pv (.str u9.name_), .pv (.slice (List.map PV.str u9.values_))]] ?_ ?_
        · clear h
          exact dg1 (an f14.1 (an f14.2.1 (an pf_36 (an f17 hsp8))))
        refine AW.cond (b := true) rfl (fun _ => ?_) (fun hb => absurd hb (by decide))
        refine AW.seq ?_
        refine AW.reg hS [(2, .pv (.bool false))] [.var [.pv (.int .i64 g1.id_), .pv (.int .i64 g1.next_), .pv (.slice (List.map Var.pv g1.vars_))], .var [.pv (.int .i64 u9.id_), .pv (.str u9.name_), .pv (.slice (List.map PV.str u9.values_))]] ?_ ?_
        · exact dk
        refine AW.ret ?_
        cases h
        exact fin
      · replace h := bif_f hsp8 h
        replace h := obs h; obtain ⟨r18, q19, h⟩ := h
        have f20 := c_F37x1 g1 u9.name_ r18 q19
        try dsimp only at f20
        have e21 : ecall O [.var [.pv (.int .i64 g1.id_), .pv (.int .i64 g1.next_), .pv (.slice (List.map Var.pv g1.vars_))], .var [.pv (.int .i64 u9.id_), .pv (.str u9.name_), .pv (.slice (List.map PV.str u9.values_))]] 37 [.pv (.agg [.int .i64 g1.id_, .int .i64 g1.next_, .slice (List.map Var.pv g1.vars_)]), .pv (.str u9.name_)] = some (retAV [.pv (.int .i64 r18)], [.var [.pv (.int .i64 g1.id_), .pv (.int .i64 g1.next_), .pv (.slice (List.map Var.pv g1.vars_))], .var [.pv (.int .i64 u9.id_), .pv (.str u9.name_), .pv (.slice (List.map PV.str u9.values_))]]) := ecall_eq rfl rfl rfl f20 rfl rfl rfl
        refine AW.dreg mixed hS (hpf ▸ (by kernel_rfl : orderOK pfn _ = true)) [(1, .ref 0 0), (4, .ref 1 0), (32, .pv (.slice (List.map Var.pv g1.vars_))), (33, .pv (.int .i64 (g1.vars_.length : Int))), (34, .pv (.int .i64 i4)), (78, .pv (.bool (!decide (r18 = i4))))] [.var [.pv (.int .i64 g1.id_), .pv (.int .i64 g1.next_), .pv (.slice (List.map Var.pv g1.vars_))], .var [.pv (.int .i64 u9.id_), .pv (.str u9.name_), .pv (.slice (List.map PV.str u9.values_))]] ?_ ?_
        · clear h
          exact dg1 (an f14.1 (an f14.2.1 (an pf_36 (an f17 (an hsp8 (an pf_37 e21))))))
        refine AW.cond (b := !decide (r18 = i4)) rfl (fun hb22 => ?_) (fun hb22 => ?_)
        · replace h := bif_t hb22 h
          refine AW.seq ?_
          refine AW.reg hS [(2, .pv (.bool false))] [.var [.pv (.int .i64 g1.id_), .pv (.int .i64 g1.next_), .pv (.slice (List.map Var.pv g1.vars_))], .var [.pv (.int .i64 u9.id_), .pv (.str u9.name_), .pv (.slice (List.map PV.str u9.values_))]] ?_ ?_
          · exact dk
          refine AW.ret ?_
          cases h
          exact fin
        · replace h := bif_f hb22 h
          refine AW.skip ?_
          refine AW.seq ?_
          replace h := obs h; obtain ⟨⟨r23, r24⟩, q25, h⟩ := h
          dsimp only at h
          have f26 := c_F39 u9.values_ r23 r24 q25
          try dsimp only at f26
          refine AW.reg hS [(1, .ref 0 0), (6, .pv (.int .i64 r24)), (32, .pv (.slice (List.map Var.pv g1.vars_))), (33, .pv (.int .i64 (g1.vars_.length : Int))), (34, .pv (.int .i64 i4))] [.var [.pv (.int .i64 g1.id_), .pv (.int .i64 g1.next_), .pv (.slice (List.map Var.pv g1.vars_))], .var [.pv (.int .i64 u9.id_), .pv (.str u9.name_), .pv (.slice (List.map PV.str u9.values_))]] ?_ ?_
          · exact dk1 (an pf_39 f26)
          refine AW.seq ?_
          refine AW.reg hS [(1, .ref 0 0), (32, .pv (.slice (List.map Var.pv g1.vars_))), (33, .pv (.int .i64 (g1.vars_.length : Int))), (34, .pv (.int .i64 i4)), (86, .pv (.bool (!decide (r24 = 0))))] [.var [.pv (.int .i64 g1.id_), .pv (.int .i64 g1.next_), .pv (.slice (List.map Var.pv g1.vars_))], .var [.pv (.int .i64 u9.id_), .pv (.str u9.name_), .pv (.slice (List.map PV.str u9.values_))]] ?_ ?_
          · exact dk
          refine AW.cond (b := !decide (r24 = 0)) rfl (fun hb27 => ?_) (fun hb27 => ?_)
          · replace h := bif_t hb27 h
            refine AW.seq ?_
            refine AW.reg hS [(2, .pv (.bool false))] [.var [.pv (.int .i64 g1.id_), .pv (.int .i64 g1.next_), .pv (.slice (List.map Var.pv g1.vars_))], .var [.pv (.int .i64 u9.id_), .pv (.str u9.name_), .pv (.slice (List.map PV.str u9.values_))]] ?_ ?_
            · exact dk
            refine AW.ret ?_
            cases h
            exact fin
          · replace h := bif_f hb27 h
            refine AW.skip ?_
            refine AW.reg hS [(1, .ref 0 0), (32, .pv (.slice (List.map Var.pv g1.vars_))), (33, .pv (.int .i64 (g1.vars_.length : Int))), (34, .pv (.int .i64 (IntKind.wrap .i64 (i4 + 1))))] [.var [.pv (.int .i64 g1.id_), .pv (.int .i64 g1.next_), .pv (.slice (List.map Var.pv g1.vars_))], .var [.pv (.int .i64 u9.id_), .pv (.str u9.name_), .pv (.slice (List.map PV.str u9.values_))]] ?_ ?_
            · exact dk
            exact ⟨(m7, IntKind.wrap .i64 (i4 + 1)), h, (Weak.norm (m := 1) (Nat.le_of_ble_eq_true rfl) ⟨rfl, rfl, rfl, rfl, trivial⟩ rfl rfl rfl), Nat.lt_succ_self _⟩
    · replace h := bif_f hb8 h
      refine AW.exit ?_
      refine AW.seq ?_
      refine AW.reg hS [(2, .pv (.bool true))] [.var [.pv (.int .i64 g1.id_), .pv (.int .i64 g1.next_), .pv (.slice (List.map Var.pv g1.vars_))]] ?_ ?_
      · exact dk
      refine AW.ret ?_
      cases h
      exact fin

end Go.Abs.U2Z
