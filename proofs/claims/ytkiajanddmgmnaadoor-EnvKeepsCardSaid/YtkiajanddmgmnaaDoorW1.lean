/- The layer 29 laws: the functions walked. -/
import Derived.Test.YtkiajanddmgmnaaDoorD1
set_option linter.unusedVariables false
set_option linter.unusedSimpArgs false
set_option maxRecDepth 8000
namespace Go.Abs.U29
open Go.RowKit Go.Proofs

set_option maxHeartbeats 4000000 in
theorem g_F69 {O : Orc} (hS : Sound env O) (hpf : O.pf = pfn) (c_L_CloneV : C_L_CloneV O) (c_L_Clone : C_L_Clone O) (l1 : List Var) (r2 : List Var) (h : F69 l1 = some r2) : Good env 69 [.pv (.slice (List.map Var.pv l1))] [] [.vec 0 (List.length r2)] [.row 76 3 (List.map Var.pv r2) false] := by
  have pf_47 : O.pf 47 = true := by rw [hpf]; rfl
  have pf_90 : O.pf 90 = false := by rw [hpf]; rfl
  refine Good.start (fn := Tryd.f69) (N := 24) fn_69 rfl rfl (by simp) [0] _ rfl rfl ?_
  rw [F69] at h
  refine AW.seq ?_
  refine AW.reg hS [(0, .pv (.slice (List.map Var.pv l1)))] [] ?_ ?_
  · exact dk
  refine AW.seq ?_
  replace h := obs h; obtain ⟨l3, q4, h⟩ := h
  have f5 := c_L_CloneV l1 l3 q4
  try dsimp only at f5
  have e6 : ecall O [] 90 [.pv (.slice (List.map Var.pv l1))] = some (retAV [.vec 0 (List.length l3)], [.row 76 3 (List.map Var.pv l3) false]) := ecall_eq rfl rfl rfl f5 rfl rfl rfl
  refine AW.reg hS [(3, .vec 0 (List.length l3))] [.row 76 3 (List.map Var.pv l3) false] ?_ ?_
  · exact dk1 (an pf_90 e6)
  refine AW.seq ?_
  refine AW.seq ?_
  refine AW.reg hS [(3, .vec 0 (List.length l3)), (8, .pv (.int .i64 (l3.length : Int))), (9, .pv (.int .i64 0))] [.row 76 3 (List.map Var.pv l3) false] ?_ ?_
  · exact dk
  refine AW.block ?_
  refine AW.weak (Weak.slots (L := [(3, .vec 0 (List.length l3)), (8, .pv (.int .i64 (l3.length : Int))), (9, .pv (.int .i64 0))]) ⟨rfl, rfl, rfl, trivial⟩) ?_
  refine AW.loopI (α := Nat × Int × (List Var)) (fun (_, i7, l8) => ⟨sl [(3, .vec 0 (List.length l8)), (8, .pv (.int .i64 (l3.length : Int))), (9, .pv (.int .i64 i7))], 24, [.row 76 3 (List.map Var.pv l8) false]⟩) (fun x => iter (F69_b1 l3) x.1 x.2 = some r2) (fun x => x.1) (BIG, (0, l3)) h ?_
  clear h
  intro ⟨n19, i7, l8⟩ h
  replace h := iter_some h; obtain ⟨m11, rfl, h⟩ := h
  rw [F69_b1] at h
  try dsimp only at h
  show AW _ _ _ _ ⟨sl [(3, .vec 0 (List.length l8)), (8, .pv (.int .i64 (l3.length : Int))), (9, .pv (.int .i64 i7))], 24, [.row 76 3 (List.map Var.pv l8) false]⟩
  refine AW.seq ?_
  refine AW.reg hS [(3, .vec 0 (List.length l8)), (8, .pv (.int .i64 (l3.length : Int))), (9, .pv (.int .i64 i7)), (10, .pv (.bool (decide (i7 < (l3.length : Int)))))] [.row 76 3 (List.map Var.pv l8) false] ?_ ?_
  · exact dk
  refine AW.seq ?_
  refine AW.cond (b := decide (i7 < (l3.length : Int))) rfl (fun hb12 => ?_) (fun hb12 => ?_)
  · replace h := bif_t hb12 h
    refine AW.skip ?_
    refine AW.seq ?_
    refine AW.block ?_
    refine AW.seq ?_
    refine AW.reg hS [(3, .vec 0 (List.length l8)), (4, .pv (.int .i64 i7)), (8, .pv (.int .i64 (l3.length : Int))), (9, .pv (.int .i64 i7))] [.row 76 3 (List.map Var.pv l8) false] ?_ ?_
    · exact dk
    replace h := obs h; obtain ⟨u13, q14, h⟩ := h
    have f15 := lidx_f q14
    replace h := obs h; obtain ⟨l16, q17, h⟩ := h
    have f18 := c_L_Clone u13.values_ l16 q17
    try dsimp only at f18
    refine AW.reg hS [(3, .vec 0 (List.length (List.set l8 (Int.toNat i7) (Var.mk u13.id_ u13.name_ l16)))), (8, .pv (.int .i64 (l3.length : Int))), (9, .pv (.int .i64 i7))] [.row 76 3 (List.map Var.pv (List.set l8 (Int.toNat i7) (Var.mk u13.id_ u13.name_ l16))) false] ?_ ?_
    · exact dk1 (an f15.1 (an f15.2.1 (an f15.2.2 (an pf_47 f18))))
    refine AW.reg hS [(3, .vec 0 (List.length (List.set l8 (Int.toNat i7) (Var.mk u13.id_ u13.name_ l16)))), (8, .pv (.int .i64 (l3.length : Int))), (9, .pv (.int .i64 (IntKind.wrap .i64 (i7 + 1))))] [.row 76 3 (List.map Var.pv (List.set l8 (Int.toNat i7) (Var.mk u13.id_ u13.name_ l16))) false] ?_ ?_
    · exact dk
    exact ⟨(m11, (IntKind.wrap .i64 (i7 + 1), List.set l8 (Int.toNat i7) (Var.mk u13.id_ u13.name_ l16))), h, (Weak.norm (m := 1) (Nat.le_of_ble_eq_true rfl) ⟨rfl, rfl, rfl, trivial⟩ rfl rfl rfl), Nat.lt_succ_self _⟩
  · replace h := bif_f hb12 h
    refine AW.exit ?_
    refine AW.seq ?_
    refine AW.reg hS [(2, .vec 0 (List.length l8))] [.row 76 3 (List.map Var.pv l8) false] ?_ ?_
    · exact dk
    refine AW.ret ?_
    cases h
    exact fin

set_option maxHeartbeats 4000000 in
theorem g_F42 {O : Orc} (hS : Sound env O) (hpf : O.pf = pfn) (c_L_CloneE : C_L_CloneE O) (c_F69 : C_F69 O) (l1 : List GEnv) (r2 : List GEnv) (m3 : Nat) (h : F42 l1 = some (r2, m3)) : Good env 42 [.pv (.slice (List.map GEnv.pv l1))] [] [.vec 0 (List.length r2)] [.tree 74 3 2 76 3 m3 (List.map GEnv.pv r2)] := by
  have pf_69 : O.pf 69 = false := by rw [hpf]; rfl
  have pf_80 : O.pf 80 = false := by rw [hpf]; rfl
  refine Good.start (fn := Tryd.f42) (N := 24) fn_42 rfl rfl (by simp) [0] _ rfl rfl ?_
  rw [F42] at h
  refine AW.seq ?_
  refine AW.reg hS [(0, .pv (.slice (List.map GEnv.pv l1)))] [] ?_ ?_
  · exact dk
  refine AW.seq ?_
  replace h := obs h; obtain ⟨l4, q5, h⟩ := h
  have f6 := c_L_CloneE l1 l4 q5
  try dsimp only at f6
  have e7 : ecall O [] 80 [.pv (.slice (List.map GEnv.pv l1))] = some (retAV [.vec 0 (List.length l4)], [.row 74 3 (List.map GEnv.pv l4) false]) := ecall_eq rfl rfl rfl f6 rfl rfl rfl
  refine AW.reg hS [(3, .vec 0 (List.length l4))] [.row 74 3 (List.map GEnv.pv l4) false] ?_ ?_
  · exact dk1 (an pf_80 e7)
  refine AW.seq ?_
  refine AW.seq ?_
  refine AW.reg hS [(3, .vec 0 (List.length l4)), (8, .pv (.int .i64 (l4.length : Int))), (9, .pv (.int .i64 0))] [.row 74 3 (List.map GEnv.pv l4) false] ?_ ?_
  · exact dk
  refine AW.block ?_
  refine AW.weak (Weak.treeStart 0 2 76 3 rfl (by decide)) ?_
  refine AW.weak (σ' := ⟨sl [(3, .vec 0 (List.length l4)), (8, .pv (.int .i64 (l4.length : Int))), (9, .pv (.int .i64 0))], 24, [.tree 74 3 2 76 3 0 (List.map GEnv.pv l4)]⟩) (Weak.slots ⟨rfl, rfl, rfl, trivial⟩) ?_
  refine AW.weak (Weak.slots (L := [(3, .vec 0 (List.length l4)), (8, .pv (.int .i64 (l4.length : Int))), (9, .pv (.int .i64 0))]) ⟨rfl, rfl, rfl, trivial⟩) ?_
  refine AW.loopI (α := Nat × Int × (List GEnv) × Nat) (fun (_, i8, l9, m10) => ⟨sl [(3, .vec 0 (List.length l9)), (8, .pv (.int .i64 (l4.length : Int))), (9, .pv (.int .i64 i8))], 24, [.tree 74 3 2 76 3 m10 (List.map GEnv.pv l9)]⟩) (fun x => iter (F42_b1 l4) x.1 x.2 = some (r2, m3)) (fun x => x.1) (BIG, (0, l4, 0)) h ?_
  clear h
  intro ⟨n25, i8, l9, m10⟩ h
  replace h := iter_some h; obtain ⟨m13, rfl, h⟩ := h
  rw [F42_b1] at h
  try dsimp only at h
  show AW _ _ _ _ ⟨sl [(3, .vec 0 (List.length l9)), (8, .pv (.int .i64 (l4.length : Int))), (9, .pv (.int .i64 i8))], 24, [.tree 74 3 2 76 3 m10 (List.map GEnv.pv l9)]⟩
  refine AW.seq ?_
  refine AW.reg hS [(3, .vec 0 (List.length l9)), (8, .pv (.int .i64 (l4.length : Int))), (9, .pv (.int .i64 i8)), (10, .pv (.bool (decide (i8 < (l4.length : Int)))))] [.tree 74 3 2 76 3 m10 (List.map GEnv.pv l9)] ?_ ?_
  · exact dk
  refine AW.seq ?_
  refine AW.cond (b := decide (i8 < (l4.length : Int))) rfl (fun hb14 => ?_) (fun hb14 => ?_)
  · replace h := bif_t hb14 h
    refine AW.skip ?_
    refine AW.seq ?_
    refine AW.block ?_
    refine AW.seq ?_
    refine AW.reg hS [(3, .vec 0 (List.length l9)), (4, .pv (.int .i64 i8)), (8, .pv (.int .i64 (l4.length : Int))), (9, .pv (.int .i64 i8))] [.tree 74 3 2 76 3 m10 (List.map GEnv.pv l9)] ?_ ?_
    · exact dk
    replace h := obs h; obtain ⟨u15, q16, h⟩ := h
    have f17 := lidx_f q16
    replace h := obs h; obtain ⟨u18, q19, h⟩ := h
    have f20 := eqO_f q19
    replace h := obs h; obtain ⟨r21, q22, h⟩ := h
    have f23 := c_F69 u15.vars_ r21 q22
    try dsimp only at f23
    have e24 : ecall O [.tree 74 3 2 76 3 m10 (List.map GEnv.pv l9)] 69 [.pv (.slice (List.map Var.pv u15.vars_))] = some (retAV [.vec 1 (List.length r21)], [.tree 74 3 2 76 3 m10 (List.map GEnv.pv l9), .row 76 3 (List.map Var.pv r21) false]) := ecall_eq rfl rfl rfl f23 rfl rfl rfl
    try simp only [f20] at e24
    refine AW.reg hS [(3, .vec 0 (List.length (List.set l9 (Int.toNat i8) (GEnv.mk u15.id_ u15.next_ r21)))), (8, .pv (.int .i64 (l4.length : Int))), (9, .pv (.int .i64 i8))] [.tree 74 3 2 76 3 (m10 + 1) (List.map GEnv.pv (List.set l9 (Int.toNat i8) (GEnv.mk u15.id_ u15.next_ r21))), .moved 76 3 (List.length r21)] ?_ ?_
    · simp -implicitDefEqProofs only [RUNS, qindex, Nat.reduceAdd, Nat.reduceLeDiff, Nat.reduceSub, reduceIte, Nat.reduceEqDiff, Nat.reduceLT, reduceCtorEq, Nat.reduceMul, Nat.reduceBEq, Int.reduceEq, if_true, if_false, eq_self, ne_eq, TYS, f17.1, f17.2.1, f17.2.2, f20, pf_69, e24, storeTree.eq_1, List.length_set] <;> (try simp only [List.length_take, List.length_drop, List.length_map])
    refine AW.reg hS [(3, .vec 0 (List.length (List.set l9 (Int.toNat i8) (GEnv.mk u15.id_ u15.next_ r21)))), (8, .pv (.int .i64 (l4.length : Int))), (9, .pv (.int .i64 (IntKind.wrap .i64 (i8 + 1))))] [.tree 74 3 2 76 3 (m10 + 1) (List.map GEnv.pv (List.set l9 (Int.toNat i8) (GEnv.mk u15.id_ u15.next_ r21))), .moved 76 3 (List.length r21)] ?_ ?_
    · exact dk
    exact ⟨(m13, (IntKind.wrap .i64 (i8 + 1), List.set l9 (Int.toNat i8) (GEnv.mk u15.id_ u15.next_ r21), m10 + 1)), h, (Weak.norm (m := 1) (Nat.le_of_ble_eq_true rfl) ⟨rfl, rfl, rfl, trivial⟩ rfl rfl rfl), Nat.lt_succ_self _⟩
  · replace h := bif_f hb14 h
    refine AW.exit ?_
    refine AW.seq ?_
    refine AW.reg hS [(2, .vec 0 (List.length l9))] [.tree 74 3 2 76 3 m10 (List.map GEnv.pv l9)] ?_ ?_
    · exact dk
    refine AW.ret ?_
    cases h
    exact fin

set_option maxHeartbeats 4000000 in
theorem g_F82 {O : Orc} (hS : Sound env O) (hpf : O.pf = pfn) (g1 : GEnv) (x2 : Int) (r3 : Bool) (h : F82 g1 x2 = some r3) : Good env 82 [.pv (.agg [.int .i64 g1.id_, .int .i64 g1.next_, .slice (List.map Var.pv g1.vars_)]), .ref 0 0] [.var [.pv (.int .i64 x2)]] [.pv (.bool r3)] [.var [.pv (.int .i64 x2)]] := by
  refine Good.start (fn := Tryd.f82) (N := 8) fn_82 rfl rfl (by simp) [] _ rfl rfl ?_
  rw [F82] at h
  refine AW.seq ?_
  refine AW.reg hS [(1, .ref 0 0), (2, .ref 1 0)] [.var [.pv (.int .i64 x2)], .var [.pv (.int .i64 g1.id_), .pv (.int .i64 g1.next_), .pv (.slice (List.map Var.pv g1.vars_))]] ?_ ?_
  · exact dk
  refine AW.seq ?_
  refine AW.reg hS [(3, .pv (.bool (decide (g1.id_ = x2))))] [.var [.pv (.int .i64 x2)], .var [.pv (.int .i64 g1.id_), .pv (.int .i64 g1.next_), .pv (.slice (List.map Var.pv g1.vars_))]] ?_ ?_
  · exact dk
  refine AW.ret ?_
  cases h
  exact fin

set_option maxHeartbeats 4000000 in
theorem g_F81 {O : Orc} (hS : Sound env O) (hpf : O.pf = pfn) (c_F82 : C_F82 O) (s1 : List GEnv) (x2 : Int) (r3 : Int) (h : F81 s1 x2 = some r3) : Good env 81 [.pv (.slice (List.map GEnv.pv s1)), .fn 82 [0]] [.var [.pv (.int .i64 x2)]] [.pv (.int .i64 r3)] [.var [.pv (.int .i64 x2)]] := by
  have pf_82 : O.pf 82 = false := by rw [hpf]; rfl
  refine Good.start (fn := Tryd.f81) (N := 19) fn_81 rfl rfl (by simp) [] _ rfl rfl ?_
  rw [F81] at h
  refine AW.seq ?_
  refine AW.reg hS [(0, .pv (.slice (List.map GEnv.pv s1))), (1, .fn 82 [0])] [.var [.pv (.int .i64 x2)]] ?_ ?_
  · exact dk
  refine AW.seq ?_
  refine AW.seq ?_
  refine AW.reg hS [(0, .pv (.slice (List.map GEnv.pv s1))), (1, .fn 82 [0]), (7, .pv (.int .i64 (s1.length : Int))), (8, .pv (.int .i64 0))] [.var [.pv (.int .i64 x2)]] ?_ ?_
  · exact dk
  refine AW.block ?_
  refine AW.weak (Weak.slots (L := [(0, .pv (.slice (List.map GEnv.pv s1))), (1, .fn 82 [0]), (7, .pv (.int .i64 (s1.length : Int))), (8, .pv (.int .i64 0))]) ⟨rfl, rfl, rfl, rfl, trivial⟩) ?_
  refine AW.loopI (α := Nat × Int) (fun (_, i4) => ⟨sl [(0, .pv (.slice (List.map GEnv.pv s1))), (1, .fn 82 [0]), (7, .pv (.int .i64 (s1.length : Int))), (8, .pv (.int .i64 i4))], 19, [.var [.pv (.int .i64 x2)]]⟩) (fun x => iter (F81_b1 s1 x2) x.1 x.2 = some r3) (fun x => x.1) (BIG, 0) h ?_
  clear h
  intro ⟨n17, i4⟩ h
  replace h := iter_some h; obtain ⟨m7, rfl, h⟩ := h
  rw [F81_b1] at h
  try dsimp only at h
  show AW _ _ _ _ ⟨sl [(0, .pv (.slice (List.map GEnv.pv s1))), (1, .fn 82 [0]), (7, .pv (.int .i64 (s1.length : Int))), (8, .pv (.int .i64 i4))], 19, [.var [.pv (.int .i64 x2)]]⟩
  refine AW.seq ?_
  refine AW.reg hS [(0, .pv (.slice (List.map GEnv.pv s1))), (1, .fn 82 [0]), (7, .pv (.int .i64 (s1.length : Int))), (8, .pv (.int .i64 i4)), (9, .pv (.bool (decide (i4 < (s1.length : Int)))))] [.var [.pv (.int .i64 x2)]] ?_ ?_
  · exact dk
  refine AW.seq ?_
  refine AW.cond (b := decide (i4 < (s1.length : Int))) rfl (fun hb8 => ?_) (fun hb8 => ?_)
  · replace h := bif_t hb8 h
    refine AW.skip ?_
    refine AW.seq ?_
    refine AW.block ?_
    refine AW.seq ?_
    refine AW.reg hS [(0, .pv (.slice (List.map GEnv.pv s1))), (1, .fn 82 [0]), (5, .pv (.int .i64 i4)), (7, .pv (.int .i64 (s1.length : Int))), (8, .pv (.int .i64 i4))] [.var [.pv (.int .i64 x2)]] ?_ ?_
    · exact dk
    refine AW.seq ?_
    replace h := obs h; obtain ⟨u9, q10, h⟩ := h
    have f11 := lidx_f q10
    replace h := obs h; obtain ⟨r12, q13, h⟩ := h
    have f14 := c_F82 u9 x2 r12 q13
    try dsimp only at f14
    have e15 : ecall O [.var [.pv (.int .i64 x2)]] 82 [.pv (.agg [.int .i64 u9.id_, .int .i64 u9.next_, .slice (List.map Var.pv u9.vars_)]), .ref 0 0] = some (retAV [.pv (.bool r12)], [.var [.pv (.int .i64 x2)]]) := ecall_eq rfl rfl rfl f14 rfl rfl rfl
    refine AW.reg hS [(0, .pv (.slice (List.map GEnv.pv s1))), (1, .fn 82 [0]), (5, .pv (.int .i64 i4)), (7, .pv (.int .i64 (s1.length : Int))), (8, .pv (.int .i64 i4)), (16, .pv (.bool r12))] [.var [.pv (.int .i64 x2)]] ?_ ?_
    · exact dk1 (an f11.1 (an f11.2.1 (an pf_82 e15)))
    refine AW.cond (b := r12) rfl (fun hb16 => ?_) (fun hb16 => ?_)
    · replace h := bif_t hb16 h
      refine AW.seq ?_
      refine AW.reg hS [(4, .pv (.int .i64 i4))] [.var [.pv (.int .i64 x2)]] ?_ ?_
      · exact dk
      refine AW.ret ?_
      cases h
      exact fin
    · replace h := bif_f hb16 h
      refine AW.skip ?_
      refine AW.reg hS [(0, .pv (.slice (List.map GEnv.pv s1))), (1, .fn 82 [0]), (7, .pv (.int .i64 (s1.length : Int))), (8, .pv (.int .i64 (IntKind.wrap .i64 (i4 + 1))))] [.var [.pv (.int .i64 x2)]] ?_ ?_
      · exact dk
      exact ⟨(m7, IntKind.wrap .i64 (i4 + 1)), h, (Weak.norm (m := 1) (Nat.le_of_ble_eq_true rfl) ⟨rfl, rfl, rfl, rfl, trivial⟩ rfl rfl rfl), Nat.lt_succ_self _⟩
  · replace h := bif_f hb8 h
    refine AW.exit ?_
    refine AW.seq ?_
    refine AW.reg hS [(4, .pv (.int .i64 (-1)))] [.var [.pv (.int .i64 x2)]] ?_ ?_
    · exact dk
    refine AW.ret ?_
    cases h
    exact fin

set_option maxHeartbeats 4000000 in
theorem g_F43 {O : Orc} (hS : Sound env O) (hpf : O.pf = pfn) (c_F81 : C_F81 O) (l1 : List GEnv) (group2 : Int) (r3 : Int) (h : F43 l1 group2 = some r3) : Good env 43 [.pv (.slice (List.map GEnv.pv l1)), .pv (.int .i64 group2)] [] [.pv (.int .i64 r3)] [] := by
  have pf_81 : O.pf 81 = false := by rw [hpf]; rfl
  refine Good.start (fn := Tryd.f43) (N := 8) fn_43 rfl rfl (by simp) [] _ rfl rfl ?_
  rw [F43] at h
  refine AW.seq ?_
  refine AW.reg hS [(0, .pv (.slice (List.map GEnv.pv l1))), (3, .ref 0 0)] [.var [.pv (.int .i64 group2)]] ?_ ?_
  · exact dk
  refine AW.seq ?_
  replace h := obs h; obtain ⟨r4, q5, h⟩ := h
  have f6 := c_F81 l1 group2 r4 q5
  try dsimp only at f6
  have e7 : ecall O [.var [.pv (.int .i64 group2)]] 81 [.pv (.slice (List.map GEnv.pv l1)), .fn 82 [0]] = some (retAV [.pv (.int .i64 r4)], [.var [.pv (.int .i64 group2)]]) := ecall_eq rfl rfl rfl f6 rfl rfl rfl
  refine AW.reg hS [(4, .pv (.int .i64 r4))] [.var [.pv (.int .i64 group2)]] ?_ ?_
  · exact dk1 (an pf_81 e7)
  refine AW.ret ?_
  cases h
  exact fin

set_option maxHeartbeats 4000000 in
theorem g_F32 {O : Orc} (hS : Sound env O) (hpf : O.pf = pfn) (c_F42 : C_F42 O) (c_F43 : C_F43 O) (c_F69 : C_F69 O) (c_L_InsertE : C_L_InsertE O) (l1 : List GEnv) (group2 : Int) (to3 : Int) (r4 : List GEnv) (r5 : Int) (h : F32 l1 group2 to3 = some (r4, r5)) : Good env 32 [.pv (.slice (List.map GEnv.pv l1)), .pv (.int .i64 group2), .pv (.int .i64 to3)] [] [.pv (.slice (List.map GEnv.pv r4)), .pv (.int .i64 r5)] [] := by
  have pf_42 : O.pf 42 = false := by rw [hpf]; rfl
  have pf_43 : O.pf 43 = true := by rw [hpf]; rfl
  have pf_69 : O.pf 69 = false := by rw [hpf]; rfl
  have pf_70 : O.pf 70 = false := by rw [hpf]; rfl
  refine Good.start (fn := Tryd.f32) (N := 81) fn_32 rfl rfl (by simp) [] _ rfl rfl ?_
  rw [F32] at h
  refine AW.seq ?_
  refine AW.reg hS [(0, .pv (.slice (List.map GEnv.pv l1))), (1, .pv (.int .i64 group2)), (2, .pv (.int .i64 to3))] [] ?_ ?_
  · exact dk
  refine AW.seq ?_
  replace h := obs h; obtain ⟨⟨r6, m7⟩, q8, h⟩ := h
  dsimp only at h
  have f9 := c_F42 l1 r6 m7 q8
  try dsimp only at f9
  have e10 : ecall O [] 42 [.pv (.slice (List.map GEnv.pv l1))] = some (retAV [.vec 0 (List.length r6)], [.tree 74 3 2 76 3 m7 (List.map GEnv.pv r6)]) := ecall_eq rfl rfl rfl f9 rfl rfl rfl
  refine AW.reg hS [(0, .pv (.slice (List.map GEnv.pv l1))), (1, .pv (.int .i64 group2)), (2, .pv (.int .i64 to3)), (8, .vec 0 (List.length r6))] [.tree 74 3 2 76 3 m7 (List.map GEnv.pv r6)] ?_ ?_
  · exact dk1 (an pf_42 e10)
  refine AW.seq ?_
  replace h := obs h; obtain ⟨r11, q12, h⟩ := h
  have f13 := c_F43 l1 group2 r11 q12
  try dsimp only at f13
  refine AW.reg hS [(0, .pv (.slice (List.map GEnv.pv l1))), (1, .pv (.int .i64 group2)), (2, .pv (.int .i64 to3)), (8, .vec 0 (List.length r6)), (9, .pv (.int .i64 r11))] [.tree 74 3 2 76 3 m7 (List.map GEnv.pv r6)] ?_ ?_
  · exact dk1 (an pf_43 f13)
  refine AW.seq ?_
  refine AW.block ?_
  refine AW.seq ?_
  refine AW.reg hS [(0, .pv (.slice (List.map GEnv.pv l1))), (1, .pv (.int .i64 group2)), (2, .pv (.int .i64 to3)), (8, .vec 0 (List.length r6)), (9, .pv (.int .i64 r11)), (17, .pv (.bool ((decide (to3 < 1) || decide (1099511627776 < to3)) || (!decide (group2 = 0) && decide (r11 < 0)))))] [.tree 74 3 2 76 3 m7 (List.map GEnv.pv r6)] ?_ ?_
  · clear h
    exact dg
  refine AW.cond (b := ((decide (to3 < 1) || decide (1099511627776 < to3)) || (!decide (group2 = 0) && decide (r11 < 0)))) rfl (fun hb14 => ?_) (fun hb14 => ?_)
  · replace h := bif_t hb14 h
    refine AW.seq ?_
    refine AW.reg hS [(6, .vec 0 (List.length r6)), (7, .pv (.int .i64 1))] [.tree 74 3 2 76 3 m7 (List.map GEnv.pv r6)] ?_ ?_
    · exact dk
    refine AW.weak (Weak.treeRow 0 rfl) ?_
    refine AW.weak (σ' := ⟨sl [(6, .vec 0 (List.length r6)), (7, .pv (.int .i64 1))], 81, [.row 74 3 (List.map GEnv.pv r6) false]⟩) (Weak.of_eq (Weak.slots (L := [(6, .vec 0 (List.length r6)), (7, .pv (.int .i64 1))]) ⟨rfl, rfl, trivial⟩) (by first | rfl | (simp only [List.length_set, List.length_map]; rfl))) ?_
    refine AW.weak (Weak.freeze 0 rfl) ?_
    refine AW.weak (σ' := ⟨sl [(6, .vec 0 (List.length r6)), (7, .pv (.int .i64 1))], 81, [.row 74 3 (List.map GEnv.pv r6) true]⟩) (Weak.slots ⟨rfl, rfl, trivial⟩) ?_
    refine AW.ret ?_
    cases h
    exact fin
  · replace h := bif_f hb14 h
    refine AW.seq ?_
    replace h := obs h; obtain ⟨r15, q16, h⟩ := h
    have f17 := c_F43 l1 to3 r15 q16
    try dsimp only at f17
    refine AW.reg hS [(0, .pv (.slice (List.map GEnv.pv l1))), (1, .pv (.int .i64 group2)), (2, .pv (.int .i64 to3)), (8, .vec 0 (List.length r6)), (9, .pv (.int .i64 r11)), (33, .pv (.bool (decide (0 ≤ r15))))] [.tree 74 3 2 76 3 m7 (List.map GEnv.pv r6)] ?_ ?_
    · exact dk1 (an pf_43 f17)
    refine AW.cond (b := decide (0 ≤ r15)) rfl (fun hb18 => ?_) (fun hb18 => ?_)
    · replace h := bif_t hb18 h
      refine AW.seq ?_
      refine AW.reg hS [(6, .vec 0 (List.length r6)), (7, .pv (.int .i64 7))] [.tree 74 3 2 76 3 m7 (List.map GEnv.pv r6)] ?_ ?_
      · exact dk
      refine AW.weak (Weak.treeRow 0 rfl) ?_
      refine AW.weak (σ' := ⟨sl [(6, .vec 0 (List.length r6)), (7, .pv (.int .i64 7))], 81, [.row 74 3 (List.map GEnv.pv r6) false]⟩) (Weak.of_eq (Weak.slots (L := [(6, .vec 0 (List.length r6)), (7, .pv (.int .i64 7))]) ⟨rfl, rfl, trivial⟩) (by first | rfl | (simp only [List.length_set, List.length_map]; rfl))) ?_
      refine AW.weak (Weak.freeze 0 rfl) ?_
      refine AW.weak (σ' := ⟨sl [(6, .vec 0 (List.length r6)), (7, .pv (.int .i64 7))], 81, [.row 74 3 (List.map GEnv.pv r6) true]⟩) (Weak.slots ⟨rfl, rfl, trivial⟩) ?_
      refine AW.ret ?_
      cases h
      exact fin
    · replace h := bif_f hb18 h
      refine AW.seq ?_
      refine AW.reg hS [(0, .pv (.slice (List.map GEnv.pv l1))), (1, .pv (.int .i64 group2)), (2, .pv (.int .i64 to3)), (8, .vec 0 (List.length r6)), (9, .pv (.int .i64 r11)), (39, .pv (.bool (decide (64 ≤ (l1.length : Int)))))] [.tree 74 3 2 76 3 m7 (List.map GEnv.pv r6)] ?_ ?_
      · exact dk
      refine AW.cond (b := decide (64 ≤ (l1.length : Int))) rfl (fun hb19 => ?_) (fun hb19 => ?_)
      · replace h := bif_t hb19 h
        refine AW.seq ?_
        refine AW.reg hS [(6, .vec 0 (List.length r6)), (7, .pv (.int .i64 22))] [.tree 74 3 2 76 3 m7 (List.map GEnv.pv r6)] ?_ ?_
        · exact dk
        refine AW.weak (Weak.treeRow 0 rfl) ?_
        refine AW.weak (σ' := ⟨sl [(6, .vec 0 (List.length r6)), (7, .pv (.int .i64 22))], 81, [.row 74 3 (List.map GEnv.pv r6) false]⟩) (Weak.of_eq (Weak.slots (L := [(6, .vec 0 (List.length r6)), (7, .pv (.int .i64 22))]) ⟨rfl, rfl, trivial⟩) (by first | rfl | (simp only [List.length_set, List.length_map]; rfl))) ?_
        refine AW.weak (Weak.freeze 0 rfl) ?_
        refine AW.weak (σ' := ⟨sl [(6, .vec 0 (List.length r6)), (7, .pv (.int .i64 22))], 81, [.row 74 3 (List.map GEnv.pv r6) true]⟩) (Weak.slots ⟨rfl, rfl, trivial⟩) ?_
        refine AW.ret ?_
        cases h
        exact fin
      · replace h := bif_f hb19 h
        refine AW.skip ?_
        refine AW.seq ?_
        refine AW.after ?_
        refine AW.reg hS [(0, .pv (.slice (List.map GEnv.pv l1))), (1, .pv (.int .i64 group2)), (2, .pv (.int .i64 to3)), (8, .vec 0 (List.length r6)), (9, .pv (.int .i64 r11)), (10, .ref 1 0)] [.tree 74 3 2 76 3 m7 (List.map GEnv.pv r6), .var [.pv (.int .i64 to3), .pv (.int .i64 2), .nils]] ?_ ?_
        · exact dk
        refine ⟨⟨sl [(0, .pv (.slice (List.map GEnv.pv l1))), (1, .pv (.int .i64 group2)), (2, .pv (.int .i64 to3)), (8, .vec 0 (List.length r6)), (9, .pv (.int .i64 r11)), (10, .ref 1 0)], 81, [.tree 74 3 2 76 3 m7 (List.map GEnv.pv r6), .var [.pv (.int .i64 to3), .pv (.int .i64 2), .vec 2 (List.length ([] : List Var))], .row 76 3 (List.map Var.pv ([] : List Var)) true]⟩, (Weak.trans (Weak.ownC (σ := ⟨sl [(0, .pv (.slice (List.map GEnv.pv l1))), (1, .pv (.int .i64 group2)), (2, .pv (.int .i64 to3)), (8, .vec 0 (List.length r6)), (9, .pv (.int .i64 r11)), (10, .ref 1 0)], 81, [.tree 74 3 2 76 3 m7 (List.map GEnv.pv r6), .var [.pv (.int .i64 to3), .pv (.int .i64 2), .nils]]⟩) 1 2 76 3 (by decide) (cs := [.pv (.int .i64 to3), .pv (.int .i64 2), .nils]) rfl rfl) (Weak.slots (L := [(0, .pv (.slice (List.map GEnv.pv l1))), (1, .pv (.int .i64 group2)), (2, .pv (.int .i64 to3)), (8, .vec 0 (List.length r6)), (9, .pv (.int .i64 r11)), (10, .ref 1 0)]) ⟨rfl, rfl, rfl, rfl, rfl, rfl, trivial⟩)), ?_⟩
        refine AW.seq ?_
        refine AW.seq ?_
        refine AW.reg hS [(0, .pv (.slice (List.map GEnv.pv l1))), (2, .pv (.int .i64 to3)), (8, .vec 0 (List.length r6)), (9, .pv (.int .i64 r11)), (10, .ref 1 0), (47, .pv (.bool (!decide (group2 = 0))))] [.tree 74 3 2 76 3 m7 (List.map GEnv.pv r6), .var [.pv (.int .i64 to3), .pv (.int .i64 2), .vec 2 (List.length ([] : List Var))], .row 76 3 (List.map Var.pv ([] : List Var)) true] ?_ ?_
        · exact dk
        refine AW.cond (b := !decide (group2 = 0)) rfl (fun hb20 => ?_) (fun hb20 => ?_)
        · replace h := bif_t hb20 h
          replace h := obs h; obtain ⟨u21, q22, h⟩ := h
          have f23 := lidx_f q22
          replace h := obs h; obtain ⟨r24, q25, h⟩ := h
          have f26 := c_F69 u21.vars_ r24 q25
          try dsimp only at f26
          have e27 : ecall O [.tree 74 3 2 76 3 m7 (List.map GEnv.pv r6), .var [.pv (.int .i64 to3), .pv (.int .i64 2), .vec 2 (List.length ([] : List Var))], .row 76 3 (List.map Var.pv ([] : List Var)) true] 69 [.pv (.slice (List.map Var.pv u21.vars_))] = some (retAV [.vec 3 (List.length r24)], [.tree 74 3 2 76 3 m7 (List.map GEnv.pv r6), .var [.pv (.int .i64 to3), .pv (.int .i64 2), .vec 2 (List.length ([] : List Var))], .row 76 3 (List.map Var.pv ([] : List Var)) true, .row 76 3 (List.map Var.pv r24) false]) := ecall_eq rfl rfl rfl f26 rfl rfl rfl
          try simp only [List.length_nil, List.map_nil] at e27
          refine AW.dregV mixed hS [10, 12, 14] [(0, 0), (0, 1), (1, 0), (1, 1), (2, 0), (2, 1), (3, 0), (3, 1), (4, 0), (4, 1), (5, 0), (6, 0), (7, 0), (8, 0), (9, 0), (10, 0), (11, 0), (11, 1), (12, 1), (13, 2), (14, 2)] [.pv (.slice (List.map GEnv.pv l1)), .pv (.int .i64 r11), .pptr [.int .i64 u21.id_, .int .i64 u21.next_, .slice (List.map Var.pv u21.vars_)], .pptr [.int .i64 u21.next_, .slice (List.map Var.pv u21.vars_)], .pv (.int .i64 u21.next_), .pv (.slice (List.map GEnv.pv l1)), .pv (.int .i64 r11), .pptr [.int .i64 u21.id_, .int .i64 u21.next_, .slice (List.map Var.pv u21.vars_)], .pptr [.slice (List.map Var.pv u21.vars_)], .pv (.slice (List.map Var.pv u21.vars_)), .vec 3 (List.length r24), .ref 1 1, .any, .ref 1 2, .any] [[.tree 74 3 2 76 3 m7 (List.map GEnv.pv r6), .var [.pv (.int .i64 to3), .pv (.int .i64 2), .vec 2 (List.length ([] : List Var))], .row 76 3 (List.map Var.pv ([] : List Var)) true], [.tree 74 3 2 76 3 m7 (List.map GEnv.pv r6), .var [.pv (.int .i64 to3), .pv (.int .i64 2), .vec 2 (List.length ([] : List Var))], .row 76 3 (List.map Var.pv ([] : List Var)) true, .row 76 3 (List.map Var.pv r24) false], [.tree 74 3 2 76 3 m7 (List.map GEnv.pv r6), .var [.pv (.int .i64 to3), .pv (.int .i64 u21.next_), .vec 2 (List.length ([] : List Var))], .row 76 3 (List.map Var.pv ([] : List Var)) true, .row 76 3 (List.map Var.pv r24) false], [.tree 74 3 2 76 3 m7 (List.map GEnv.pv r6), .var [.pv (.int .i64 to3), .pv (.int .i64 u21.next_), .vec 3 (List.length r24)], .row 76 3 (List.map Var.pv ([] : List Var)) true, .row 76 3 (List.map Var.pv r24) false]] [(48, .pv (.slice (List.map GEnv.pv l1))), (49, .pv (.int .i64 r11)), (50, .pptr [.int .i64 u21.id_, .int .i64 u21.next_, .slice (List.map Var.pv u21.vars_)]), (51, .pptr [.int .i64 u21.next_, .slice (List.map Var.pv u21.vars_)]), (52, .pv (.int .i64 u21.next_)), (53, .pv (.slice (List.map GEnv.pv l1))), (54, .pv (.int .i64 r11)), (55, .pptr [.int .i64 u21.id_, .int .i64 u21.next_, .slice (List.map Var.pv u21.vars_)]), (56, .pptr [.slice (List.map Var.pv u21.vars_)]), (57, .pv (.slice (List.map Var.pv u21.vars_))), (58, .vec 3 (List.length r24)), (59, .ref 1 1), (60, .ref 1 2), (0, .pv (.slice (List.map GEnv.pv l1))), (2, .pv (.int .i64 to3)), (8, .vec 0 (List.length r6)), (9, .pv (.int .i64 r11)), (10, .ref 1 0), (47, .pv (.bool (!decide (group2 = 0))))] (by kernel_rfl) (by kernel_rfl) (by kernel_rfl) ?_ [(2, .pv (.int .i64 to3)), (8, .vec 0 (List.length r6)), (10, .ref 1 0)] [.tree 74 3 2 76 3 m7 (List.map GEnv.pv r6), .var [.pv (.int .i64 to3), .pv (.int .i64 u21.next_), .vec 3 (List.length r24)], .row 76 3 (List.map Var.pv ([] : List Var)) true, .row 76 3 (List.map Var.pv r24) false] ⟨rfl, rfl, rfl, trivial⟩ rfl ?_
          · repeat' (first | exact Facts.nil | refine Facts.cons rfl rfl rfl ?_ ?_)
            all_goals exact dv1 (an f23.1 (an f23.2.1 (an pf_69 e27)))
          refine AW.seq ?_
          refine AW.reg hS [(2, .pv (.int .i64 to3)), (8, .vec 0 (List.length r6)), (10, .ref 1 0), (11, .pv (.int .i64 0))] [.tree 74 3 2 76 3 m7 (List.map GEnv.pv r6), .var [.pv (.int .i64 to3), .pv (.int .i64 u21.next_), .vec 3 (List.length r24)], .row 76 3 (List.map Var.pv ([] : List Var)) true, .row 76 3 (List.map Var.pv r24) false] ?_ ?_
          · exact dk
          refine AW.seq ?_
          refine AW.block ?_
          refine AW.weak (Weak.treeRow 0 rfl) ?_
          refine AW.weak (σ' := ⟨sl [(2, .pv (.int .i64 to3)), (8, .vec 0 (List.length r6)), (10, .ref 1 0), (11, .pv (.int .i64 0))], 81, [.row 74 3 (List.map GEnv.pv r6) false, .var [.pv (.int .i64 to3), .pv (.int .i64 u21.next_), .vec 3 (List.length r24)], .row 76 3 (List.map Var.pv ([] : List Var)) true, .row 76 3 (List.map Var.pv r24) false]⟩) (Weak.of_eq (Weak.slots (L := [(2, .pv (.int .i64 to3)), (8, .vec 0 (List.length r6)), (10, .ref 1 0), (11, .pv (.int .i64 0))]) ⟨rfl, rfl, rfl, rfl, trivial⟩) (by first | rfl | (simp only [List.length_set, List.length_map]; rfl))) ?_
          refine AW.weak (Weak.slots (L := [(2, .pv (.int .i64 to3)), (8, .vec 0 (List.length r6)), (10, .ref 1 0), (11, .pv (.int .i64 0))]) ⟨rfl, rfl, rfl, rfl, trivial⟩) ?_
          refine AW.loopI (α := Nat × Int) (fun (_, at28) => ⟨sl [(2, .pv (.int .i64 to3)), (8, .vec 0 (List.length r6)), (10, .ref 1 0), (11, .pv (.int .i64 at28))], 81, [.row 74 3 (List.map GEnv.pv r6) false, .var [.pv (.int .i64 to3), .pv (.int .i64 u21.next_), .vec 3 (List.length r24)], .row 76 3 (List.map Var.pv ([] : List Var)) true, .row 76 3 (List.map Var.pv r24) false]⟩) (fun x => iter (F32_b1 r6 to3 u21 r24) x.1 x.2 = some (r4, r5)) (fun x => x.1) (BIG, 0) h ?_
          clear h
          intro ⟨n40, at28⟩ h
          replace h := iter_some h; obtain ⟨m31, rfl, h⟩ := h
          rw [F32_b1] at h
          try dsimp only at h
          show AW _ _ _ _ ⟨sl [(2, .pv (.int .i64 to3)), (8, .vec 0 (List.length r6)), (10, .ref 1 0), (11, .pv (.int .i64 at28))], 81, [.row 74 3 (List.map GEnv.pv r6) false, .var [.pv (.int .i64 to3), .pv (.int .i64 u21.next_), .vec 3 (List.length r24)], .row 76 3 (List.map Var.pv ([] : List Var)) true, .row 76 3 (List.map Var.pv r24) false]⟩
          refine AW.seq ?_
          refine AW.seq ?_
          replace h := obs h; obtain ⟨u32, q33, h⟩ := h
          have f34 := lidx_g (guardO_t q33)
          refine AW.reg hS [(2, .pv (.int .i64 to3)), (8, .vec 0 (List.length r6)), (10, .ref 1 0), (11, .pv (.int .i64 at28)), (73, .pv (.bool (decide (at28 < (r6.length : Int)) && decide (u32.id_ < to3))))] [.row 74 3 (List.map GEnv.pv r6) false, .var [.pv (.int .i64 to3), .pv (.int .i64 u21.next_), .vec 3 (List.length r24)], .row 76 3 (List.map Var.pv ([] : List Var)) true, .row 76 3 (List.map Var.pv r24) false] ?_ ?_
          · clear h
            exact dg1 (an f34.1 (an f34.2.1 f34.2.2))
          refine AW.cond (b := (decide (at28 < (r6.length : Int)) && decide (u32.id_ < to3))) rfl (fun hb35 => ?_) (fun hb35 => ?_)
          · replace h := bif_t hb35 h
            refine AW.skip ?_
            refine AW.block ?_
            refine AW.reg hS [(2, .pv (.int .i64 to3)), (8, .vec 0 (List.length r6)), (10, .ref 1 0), (11, .pv (.int .i64 (IntKind.wrap .i64 (at28 + 1))))] [.row 74 3 (List.map GEnv.pv r6) false, .var [.pv (.int .i64 to3), .pv (.int .i64 u21.next_), .vec 3 (List.length r24)], .row 76 3 (List.map Var.pv ([] : List Var)) true, .row 76 3 (List.map Var.pv r24) false] ?_ ?_
            · exact dk
            exact ⟨(m31, IntKind.wrap .i64 (at28 + 1)), h, (Weak.norm (m := 4) (Nat.le_of_ble_eq_true rfl) ⟨rfl, rfl, rfl, rfl, trivial⟩ rfl rfl rfl), Nat.lt_succ_self _⟩
          · replace h := bif_f hb35 h
            refine AW.exit ?_
            refine AW.seq ?_
            refine AW.weak (Weak.freeze 3 rfl) ?_
            refine AW.weak (σ' := ⟨sl [(2, .pv (.int .i64 to3)), (8, .vec 0 (List.length r6)), (10, .ref 1 0), (11, .pv (.int .i64 at28)), (73, .pv (.bool (decide (at28 < (r6.length : Int)) && decide (u32.id_ < to3))))], 81, [.row 74 3 (List.map GEnv.pv r6) false, .var [.pv (.int .i64 to3), .pv (.int .i64 u21.next_), .vec 3 (List.length r24)], .row 76 3 (List.map Var.pv ([] : List Var)) true, .row 76 3 (List.map Var.pv r24) true]⟩) (Weak.slots ⟨rfl, rfl, rfl, rfl, rfl, trivial⟩) ?_
            refine AW.weak (Weak.cellPV 1 2 (cs := [.pv (.int .i64 to3), .pv (.int .i64 u21.next_), .vec 3 (List.length r24)]) (a := .vec 3 (List.length r24)) (p := .slice (List.map Var.pv r24)) rfl rfl (by first | rfl | simp only [toPV, List.getElem?_cons_zero, List.getElem?_cons_succ, List.length_map, if_true, List.map_nil])) ?_
            refine AW.weak (σ' := ⟨sl [(2, .pv (.int .i64 to3)), (8, .vec 0 (List.length r6)), (10, .ref 1 0), (11, .pv (.int .i64 at28)), (73, .pv (.bool (decide (at28 < (r6.length : Int)) && decide (u32.id_ < to3))))], 81, [.row 74 3 (List.map GEnv.pv r6) false, .var [.pv (.int .i64 to3), .pv (.int .i64 u21.next_), .pv (.slice (List.map Var.pv r24))], .row 76 3 (List.map Var.pv ([] : List Var)) true, .row 76 3 (List.map Var.pv r24) true]⟩) (Weak.of_eq (Weak.slots (L := [(2, .pv (.int .i64 to3)), (8, .vec 0 (List.length r6)), (10, .ref 1 0), (11, .pv (.int .i64 at28)), (73, .pv (.bool (decide (at28 < (r6.length : Int)) && decide (u32.id_ < to3))))]) ⟨rfl, rfl, rfl, rfl, rfl, trivial⟩) (by first | rfl | (simp only [List.length_set, List.length_map]; rfl))) ?_
            replace h := obs h; obtain ⟨r36, q37, h⟩ := h
            have f38 := c_L_InsertE r6 at28 [GEnv.mk to3 u21.next_ r24] r36 q37
            try dsimp only at f38
            try simp only [List.map_cons, List.map_nil, P22_eq, GOp.pv_eq, Var.pv_eq, P72_eq, GEnv.pv_eq] at f38
            have e39 : ecall O [.row 74 3 (List.map GEnv.pv r6) false, .var [.pv (.int .i64 to3), .pv (.int .i64 u21.next_), .pv (.slice (List.map Var.pv r24))], .row 76 3 (List.map Var.pv ([] : List Var)) true, .row 76 3 (List.map Var.pv r24) true] 70 [.vec 0 (List.length r6), .pv (.int .i64 at28), .full (List.map GEnv.pv [GEnv.mk to3 u21.next_ r24])] = some (retAV [.vec 0 (List.length r36)], [.row 74 3 (List.map GEnv.pv r36) false, .var [.pv (.int .i64 to3), .pv (.int .i64 u21.next_), .pv (.slice (List.map Var.pv r24))], .row 76 3 (List.map Var.pv ([] : List Var)) true, .row 76 3 (List.map Var.pv r24) true]) := ecall_eq rfl rfl rfl f38 rfl rfl rfl
            try simp only [List.length_nil, List.map_nil, List.map_cons, List.map_nil, P22_eq, GOp.pv_eq, Var.pv_eq, P72_eq, GEnv.pv_eq] at e39
            refine AW.reg hS [(6, .vec 0 (List.length r36)), (7, .pv (.int .i64 0))] [.row 74 3 (List.map GEnv.pv r36) false, .var [.pv (.int .i64 to3), .pv (.int .i64 u21.next_), .pv (.slice (List.map Var.pv r24))], .row 76 3 (List.map Var.pv ([] : List Var)) true, .row 76 3 (List.map Var.pv r24) true] ?_ ?_
            · exact dk1 (an pf_70 e39)
            refine AW.weak (Weak.freeze 0 rfl) ?_
            refine AW.weak (σ' := ⟨sl [(6, .vec 0 (List.length r36)), (7, .pv (.int .i64 0))], 81, [.row 74 3 (List.map GEnv.pv r36) true, .var [.pv (.int .i64 to3), .pv (.int .i64 u21.next_), .pv (.slice (List.map Var.pv r24))], .row 76 3 (List.map Var.pv ([] : List Var)) true, .row 76 3 (List.map Var.pv r24) true]⟩) (Weak.slots ⟨rfl, rfl, trivial⟩) ?_
            refine AW.ret ?_
            cases h
            exact fin
        · replace h := bif_f hb20 h
          refine AW.skip ?_
          refine AW.seq ?_
          refine AW.reg hS [(2, .pv (.int .i64 to3)), (8, .vec 0 (List.length r6)), (10, .ref 1 0), (11, .pv (.int .i64 0))] [.tree 74 3 2 76 3 m7 (List.map GEnv.pv r6), .var [.pv (.int .i64 to3), .pv (.int .i64 2), .vec 2 (List.length ([] : List Var))], .row 76 3 (List.map Var.pv ([] : List Var)) true] ?_ ?_
          · exact dk
          refine AW.seq ?_
          refine AW.block ?_
          refine AW.weak (Weak.treeRow 0 rfl) ?_
          refine AW.weak (σ' := ⟨sl [(2, .pv (.int .i64 to3)), (8, .vec 0 (List.length r6)), (10, .ref 1 0), (11, .pv (.int .i64 0))], 81, [.row 74 3 (List.map GEnv.pv r6) false, .var [.pv (.int .i64 to3), .pv (.int .i64 2), .vec 2 (List.length ([] : List Var))], .row 76 3 (List.map Var.pv ([] : List Var)) true]⟩) (Weak.of_eq (Weak.slots (L := [(2, .pv (.int .i64 to3)), (8, .vec 0 (List.length r6)), (10, .ref 1 0), (11, .pv (.int .i64 0))]) ⟨rfl, rfl, rfl, rfl, trivial⟩) (by first | rfl | (simp only [List.length_set, List.length_map]; rfl))) ?_
          refine AW.weak (Weak.slots (L := [(2, .pv (.int .i64 to3)), (8, .vec 0 (List.length r6)), (10, .ref 1 0), (11, .pv (.int .i64 0))]) ⟨rfl, rfl, rfl, rfl, trivial⟩) ?_
          refine AW.loopI (α := Nat × Int) (fun (_, at41) => ⟨sl [(2, .pv (.int .i64 to3)), (8, .vec 0 (List.length r6)), (10, .ref 1 0), (11, .pv (.int .i64 at41))], 81, [.row 74 3 (List.map GEnv.pv r6) false, .var [.pv (.int .i64 to3), .pv (.int .i64 2), .vec 2 (List.length ([] : List Var))], .row 76 3 (List.map Var.pv ([] : List Var)) true]⟩) (fun x => iter (F32_b2 r6 to3) x.1 x.2 = some (r4, r5)) (fun x => x.1) (BIG, 0) h ?_
          clear h
          intro ⟨n53, at41⟩ h
          replace h := iter_some h; obtain ⟨m44, rfl, h⟩ := h
          rw [F32_b2] at h
          try dsimp only at h
          show AW _ _ _ _ ⟨sl [(2, .pv (.int .i64 to3)), (8, .vec 0 (List.length r6)), (10, .ref 1 0), (11, .pv (.int .i64 at41))], 81, [.row 74 3 (List.map GEnv.pv r6) false, .var [.pv (.int .i64 to3), .pv (.int .i64 2), .vec 2 (List.length ([] : List Var))], .row 76 3 (List.map Var.pv ([] : List Var)) true]⟩
          refine AW.seq ?_
          refine AW.seq ?_
          replace h := obs h; obtain ⟨u45, q46, h⟩ := h
          have f47 := lidx_g (guardO_t q46)
          refine AW.reg hS [(2, .pv (.int .i64 to3)), (8, .vec 0 (List.length r6)), (10, .ref 1 0), (11, .pv (.int .i64 at41)), (73, .pv (.bool (decide (at41 < (r6.length : Int)) && decide (u45.id_ < to3))))] [.row 74 3 (List.map GEnv.pv r6) false, .var [.pv (.int .i64 to3), .pv (.int .i64 2), .vec 2 (List.length ([] : List Var))], .row 76 3 (List.map Var.pv ([] : List Var)) true] ?_ ?_
          · clear h
            exact dg1 (an f47.1 (an f47.2.1 f47.2.2))
          refine AW.cond (b := (decide (at41 < (r6.length : Int)) && decide (u45.id_ < to3))) rfl (fun hb48 => ?_) (fun hb48 => ?_)
          · replace h := bif_t hb48 h
            refine AW.skip ?_
            refine AW.block ?_
            refine AW.reg hS [(2, .pv (.int .i64 to3)), (8, .vec 0 (List.length r6)), (10, .ref 1 0), (11, .pv (.int .i64 (IntKind.wrap .i64 (at41 + 1))))] [.row 74 3 (List.map GEnv.pv r6) false, .var [.pv (.int .i64 to3), .pv (.int .i64 2), .vec 2 (List.length ([] : List Var))], .row 76 3 (List.map Var.pv ([] : List Var)) true] ?_ ?_
            · exact dk
            exact ⟨(m44, IntKind.wrap .i64 (at41 + 1)), h, (Weak.norm (m := 3) (Nat.le_of_ble_eq_true rfl) ⟨rfl, rfl, rfl, rfl, trivial⟩ rfl rfl rfl), Nat.lt_succ_self _⟩
          · replace h := bif_f hb48 h
            refine AW.exit ?_
            refine AW.seq ?_
            refine AW.weak (Weak.cellPV 1 2 (cs := [.pv (.int .i64 to3), .pv (.int .i64 2), .vec 2 (List.length ([] : List Var))]) (a := .vec 2 (List.length ([] : List Var))) (p := .slice (List.map Var.pv ([] : List Var))) rfl rfl (by first | rfl | simp only [toPV, List.getElem?_cons_zero, List.getElem?_cons_succ, List.length_map, if_true, List.map_nil])) ?_
            refine AW.weak (σ' := ⟨sl [(2, .pv (.int .i64 to3)), (8, .vec 0 (List.length r6)), (10, .ref 1 0), (11, .pv (.int .i64 at41)), (73, .pv (.bool (decide (at41 < (r6.length : Int)) && decide (u45.id_ < to3))))], 81, [.row 74 3 (List.map GEnv.pv r6) false, .var [.pv (.int .i64 to3), .pv (.int .i64 2), .pv (.slice (List.map Var.pv ([] : List Var)))], .row 76 3 (List.map Var.pv ([] : List Var)) true]⟩) (Weak.of_eq (Weak.slots (L := [(2, .pv (.int .i64 to3)), (8, .vec 0 (List.length r6)), (10, .ref 1 0), (11, .pv (.int .i64 at41)), (73, .pv (.bool (decide (at41 < (r6.length : Int)) && decide (u45.id_ < to3))))]) ⟨rfl, rfl, rfl, rfl, rfl, trivial⟩) (by first | rfl | (simp only [List.length_set, List.length_map]; rfl))) ?_
            replace h := obs h; obtain ⟨r49, q50, h⟩ := h
            have f51 := c_L_InsertE r6 at41 [GEnv.mk to3 2 ([] : List Var)] r49 q50
            try dsimp only at f51
            try simp only [List.map_cons, List.map_nil, P22_eq, GOp.pv_eq, Var.pv_eq, P72_eq, GEnv.pv_eq] at f51
            have e52 : ecall O [.row 74 3 (List.map GEnv.pv r6) false, .var [.pv (.int .i64 to3), .pv (.int .i64 2), .pv (.slice (List.map Var.pv ([] : List Var)))], .row 76 3 (List.map Var.pv ([] : List Var)) true] 70 [.vec 0 (List.length r6), .pv (.int .i64 at41), .full (List.map GEnv.pv [GEnv.mk to3 2 ([] : List Var)])] = some (retAV [.vec 0 (List.length r49)], [.row 74 3 (List.map GEnv.pv r49) false, .var [.pv (.int .i64 to3), .pv (.int .i64 2), .pv (.slice (List.map Var.pv ([] : List Var)))], .row 76 3 (List.map Var.pv ([] : List Var)) true]) := ecall_eq rfl rfl rfl f51 rfl rfl rfl
            try simp only [List.length_nil, List.map_nil, List.map_cons, List.map_nil, P22_eq, GOp.pv_eq, Var.pv_eq, P72_eq, GEnv.pv_eq] at e52
            refine AW.reg hS [(6, .vec 0 (List.length r49)), (7, .pv (.int .i64 0))] [.row 74 3 (List.map GEnv.pv r49) false, .var [.pv (.int .i64 to3), .pv (.int .i64 2), .pv (.slice (List.map Var.pv ([] : List Var)))], .row 76 3 (List.map Var.pv ([] : List Var)) true] ?_ ?_
            · exact dk1 (an pf_70 e52)
            refine AW.weak (Weak.freeze 0 rfl) ?_
            refine AW.weak (σ' := ⟨sl [(6, .vec 0 (List.length r49)), (7, .pv (.int .i64 0))], 81, [.row 74 3 (List.map GEnv.pv r49) true, .var [.pv (.int .i64 to3), .pv (.int .i64 2), .pv (.slice (List.map Var.pv ([] : List Var)))], .row 76 3 (List.map Var.pv ([] : List Var)) true]⟩) (Weak.slots ⟨rfl, rfl, trivial⟩) ?_
            refine AW.ret ?_
            cases h
            exact fin

set_option maxHeartbeats 4000000 in
theorem g_F44 {O : Orc} (hS : Sound env O) (hpf : O.pf = pfn) (name1 : Str) (r2 : Bool) (h : F44 name1 = some r2) : Good env 44 [.pv (.str name1)] [] [.pv (.bool r2)] [] := by
  refine Good.start (fn := Tryd.f44) (N := 41) fn_44 rfl rfl (by simp) [] _ rfl rfl ?_
  rw [F44] at h
  refine AW.seq ?_
  refine AW.reg hS [(0, .pv (.str name1))] [] ?_ ?_
  · exact dk
  refine AW.seq ?_
  refine AW.seq ?_
  refine AW.reg hS [(0, .pv (.str name1)), (18, .pv (.bool (((decide (name1 = []) || decide (name1 = [46])) || decide (name1 = [46, 46])) || decide (64 < (name1.length : Int)))))] [] ?_ ?_
  · clear h
    exact dg
  refine AW.cond (b := (((decide (name1 = []) || decide (name1 = [46])) || decide (name1 = [46, 46])) || decide (64 < (name1.length : Int)))) rfl (fun hb3 => ?_) (fun hb3 => ?_)
  · replace h := bif_t hb3 h
    refine AW.seq ?_
    refine AW.reg hS [(2, .pv (.bool false))] [] ?_ ?_
    · exact dk
    refine AW.ret ?_
    cases h
    exact fin
  · replace h := bif_f hb3 h
    refine AW.skip ?_
    refine AW.seq ?_
    refine AW.seq ?_
    refine AW.reg hS [(0, .pv (.str name1)), (20, .pv (.int .i64 (name1.length : Int))), (21, .pv (.int .i64 0))] [] ?_ ?_
    · exact dk
    refine AW.block ?_
    refine AW.weak (Weak.slots (L := [(0, .pv (.str name1)), (20, .pv (.int .i64 (name1.length : Int))), (21, .pv (.int .i64 0))]) ⟨rfl, rfl, rfl, trivial⟩) ?_
    refine AW.loopI (α := Nat × Int) (fun (_, i4) => ⟨sl [(0, .pv (.str name1)), (20, .pv (.int .i64 (name1.length : Int))), (21, .pv (.int .i64 i4))], 41, []⟩) (fun x => iter (F44_b1 name1) x.1 x.2 = some r2) (fun x => x.1) (BIG, 0) h ?_
    clear h
    intro ⟨n13, i4⟩ h
    replace h := iter_some h; obtain ⟨m7, rfl, h⟩ := h
    rw [F44_b1] at h
    try dsimp only at h
    show AW _ _ _ _ ⟨sl [(0, .pv (.str name1)), (20, .pv (.int .i64 (name1.length : Int))), (21, .pv (.int .i64 i4))], 41, []⟩
    refine AW.seq ?_
    refine AW.reg hS [(0, .pv (.str name1)), (20, .pv (.int .i64 (name1.length : Int))), (21, .pv (.int .i64 i4)), (22, .pv (.bool (decide (i4 < (name1.length : Int)))))] [] ?_ ?_
    · exact dk
    refine AW.seq ?_
    refine AW.cond (b := decide (i4 < (name1.length : Int))) rfl (fun hb8 => ?_) (fun hb8 => ?_)
    · replace h := bif_t hb8 h
      refine AW.skip ?_
      refine AW.seq ?_
      refine AW.block ?_
      refine AW.seq ?_
      refine AW.reg hS [(0, .pv (.str name1)), (3, .pv (.int .i64 i4)), (20, .pv (.int .i64 (name1.length : Int))), (21, .pv (.int .i64 i4))] [] ?_ ?_
      · exact dk
      refine AW.seq ?_
      replace h := obs h; obtain ⟨c9, q10, h⟩ := h
      have f11 := sidx_f q10
      refine AW.reg hS [(0, .pv (.str name1)), (20, .pv (.int .i64 (name1.length : Int))), (21, .pv (.int .i64 i4)), (39, .pv (.bool ((decide (c9 < 33) || decide (126 < c9)) || decide (c9 = 47))))] [] ?_ ?_
      · clear h
        exact dg1 (an f11.1 (an f11.2.1 f11.2.2))
      refine AW.cond (b := ((decide (c9 < 33) || decide (126 < c9)) || decide (c9 = 47))) rfl (fun hb12 => ?_) (fun hb12 => ?_)
      · replace h := bif_t hb12 h
        refine AW.seq ?_
        refine AW.reg hS [(2, .pv (.bool false))] [] ?_ ?_
        · exact dk
        refine AW.ret ?_
        cases h
        exact fin
      · replace h := bif_f hb12 h
        refine AW.skip ?_
        refine AW.reg hS [(0, .pv (.str name1)), (20, .pv (.int .i64 (name1.length : Int))), (21, .pv (.int .i64 (IntKind.wrap .i64 (i4 + 1))))] [] ?_ ?_
        · exact dk
        exact ⟨(m7, IntKind.wrap .i64 (i4 + 1)), h, (Weak.norm (m := 0) (Nat.le_of_ble_eq_true rfl) ⟨rfl, rfl, rfl, trivial⟩ rfl rfl rfl), Nat.lt_succ_self _⟩
    · replace h := bif_f hb8 h
      refine AW.exit ?_
      refine AW.seq ?_
      refine AW.reg hS [(2, .pv (.bool true))] [] ?_ ?_
      · exact dk
      refine AW.ret ?_
      cases h
      exact fin

set_option maxHeartbeats 4000000 in
theorem g_F84 {O : Orc} (hS : Sound env O) (hpf : O.pf = pfn) (v1 : Var) (x2 : Str) (r3 : Bool) (h : F84 v1 x2 = some r3) : Good env 84 [.pv (.agg [.int .i64 v1.id_, .str v1.name_, .slice (List.map PV.str v1.values_)]), .ref 0 0] [.var [.pv (.str x2)]] [.pv (.bool r3)] [.var [.pv (.str x2)]] := by
  refine Good.start (fn := Tryd.f84) (N := 8) fn_84 rfl rfl (by simp) [] _ rfl rfl ?_
  rw [F84] at h
  refine AW.seq ?_
  refine AW.reg hS [(1, .ref 0 0), (2, .ref 1 0)] [.var [.pv (.str x2)], .var [.pv (.int .i64 v1.id_), .pv (.str v1.name_), .pv (.slice (List.map PV.str v1.values_))]] ?_ ?_
  · exact dk
  refine AW.seq ?_
  refine AW.reg hS [(3, .pv (.bool (decide (v1.name_ = x2))))] [.var [.pv (.str x2)], .var [.pv (.int .i64 v1.id_), .pv (.str v1.name_), .pv (.slice (List.map PV.str v1.values_))]] ?_ ?_
  · exact dk
  refine AW.ret ?_
  cases h
  exact fin

set_option maxHeartbeats 4000000 in
theorem g_F83 {O : Orc} (hS : Sound env O) (hpf : O.pf = pfn) (c_F84 : C_F84 O) (l1 : List Var) (x2 : Str) (r3 : Int) (h : F83 l1 x2 = some r3) : Good env 83 [.vec 0 (List.length l1), .fn 84 [1]] [.row 76 3 (List.map Var.pv l1) false, .var [.pv (.str x2)]] [.pv (.int .i64 r3)] [.row 76 3 (List.map Var.pv l1) false, .var [.pv (.str x2)]] := by
  have pf_84 : O.pf 84 = false := by rw [hpf]; rfl
  refine Good.start (fn := Tryd.f83) (N := 19) fn_83 rfl rfl (by simp) [] _ rfl rfl ?_
  rw [F83] at h
  refine AW.seq ?_
  refine AW.reg hS [(0, .vec 0 (List.length l1)), (1, .fn 84 [1])] [.row 76 3 (List.map Var.pv l1) false, .var [.pv (.str x2)]] ?_ ?_
  · exact dk
  refine AW.seq ?_
  refine AW.seq ?_
  refine AW.reg hS [(0, .vec 0 (List.length l1)), (1, .fn 84 [1]), (7, .pv (.int .i64 (l1.length : Int))), (8, .pv (.int .i64 0))] [.row 76 3 (List.map Var.pv l1) false, .var [.pv (.str x2)]] ?_ ?_
  · exact dk
  refine AW.block ?_
  refine AW.weak (Weak.slots (L := [(0, .vec 0 (List.length l1)), (1, .fn 84 [1]), (7, .pv (.int .i64 (l1.length : Int))), (8, .pv (.int .i64 0))]) ⟨rfl, rfl, rfl, rfl, trivial⟩) ?_
  refine AW.loopI (α := Nat × Int) (fun (_, i4) => ⟨sl [(0, .vec 0 (List.length l1)), (1, .fn 84 [1]), (7, .pv (.int .i64 (l1.length : Int))), (8, .pv (.int .i64 i4))], 19, [.row 76 3 (List.map Var.pv l1) false, .var [.pv (.str x2)]]⟩) (fun x => iter (F83_b1 l1 x2) x.1 x.2 = some r3) (fun x => x.1) (BIG, 0) h ?_
  clear h
  intro ⟨n17, i4⟩ h
  replace h := iter_some h; obtain ⟨m7, rfl, h⟩ := h
  rw [F83_b1] at h
  try dsimp only at h
  show AW _ _ _ _ ⟨sl [(0, .vec 0 (List.length l1)), (1, .fn 84 [1]), (7, .pv (.int .i64 (l1.length : Int))), (8, .pv (.int .i64 i4))], 19, [.row 76 3 (List.map Var.pv l1) false, .var [.pv (.str x2)]]⟩
  refine AW.seq ?_
  refine AW.reg hS [(0, .vec 0 (List.length l1)), (1, .fn 84 [1]), (7, .pv (.int .i64 (l1.length : Int))), (8, .pv (.int .i64 i4)), (9, .pv (.bool (decide (i4 < (l1.length : Int)))))] [.row 76 3 (List.map Var.pv l1) false, .var [.pv (.str x2)]] ?_ ?_
  · exact dk
  refine AW.seq ?_
  refine AW.cond (b := decide (i4 < (l1.length : Int))) rfl (fun hb8 => ?_) (fun hb8 => ?_)
  · replace h := bif_t hb8 h
    refine AW.skip ?_
    refine AW.seq ?_
    refine AW.block ?_
    refine AW.seq ?_
    refine AW.reg hS [(0, .vec 0 (List.length l1)), (1, .fn 84 [1]), (5, .pv (.int .i64 i4)), (7, .pv (.int .i64 (l1.length : Int))), (8, .pv (.int .i64 i4))] [.row 76 3 (List.map Var.pv l1) false, .var [.pv (.str x2)]] ?_ ?_
    · exact dk
    refine AW.seq ?_
    replace h := obs h; obtain ⟨u9, q10, h⟩ := h
    have f11 := lidx_f q10
    replace h := obs h; obtain ⟨r12, q13, h⟩ := h
    have f14 := c_F84 u9 x2 r12 q13
    try dsimp only at f14
    have e15 : ecall O [.row 76 3 (List.map Var.pv l1) false, .var [.pv (.str x2)]] 84 [.pv (.agg [.int .i64 u9.id_, .str u9.name_, .slice (List.map PV.str u9.values_)]), .ref 1 0] = some (retAV [.pv (.bool r12)], [.row 76 3 (List.map Var.pv l1) false, .var [.pv (.str x2)]]) := ecall_eq rfl rfl rfl f14 rfl rfl rfl
    refine AW.reg hS [(0, .vec 0 (List.length l1)), (1, .fn 84 [1]), (5, .pv (.int .i64 i4)), (7, .pv (.int .i64 (l1.length : Int))), (8, .pv (.int .i64 i4)), (16, .pv (.bool r12))] [.row 76 3 (List.map Var.pv l1) false, .var [.pv (.str x2)]] ?_ ?_
    · exact dk1 (an f11.1 (an f11.2.1 (an f11.2.2 (an pf_84 e15))))
    refine AW.cond (b := r12) rfl (fun hb16 => ?_) (fun hb16 => ?_)
    · replace h := bif_t hb16 h
      refine AW.seq ?_
      refine AW.reg hS [(4, .pv (.int .i64 i4))] [.row 76 3 (List.map Var.pv l1) false, .var [.pv (.str x2)]] ?_ ?_
      · exact dk
      refine AW.ret ?_
      cases h
      exact fin
    · replace h := bif_f hb16 h
      refine AW.skip ?_
      refine AW.reg hS [(0, .vec 0 (List.length l1)), (1, .fn 84 [1]), (7, .pv (.int .i64 (l1.length : Int))), (8, .pv (.int .i64 (IntKind.wrap .i64 (i4 + 1))))] [.row 76 3 (List.map Var.pv l1) false, .var [.pv (.str x2)]] ?_ ?_
      · exact dk
      exact ⟨(m7, IntKind.wrap .i64 (i4 + 1)), h, (Weak.norm (m := 2) (Nat.le_of_ble_eq_true rfl) ⟨rfl, rfl, rfl, rfl, trivial⟩ rfl rfl rfl), Nat.lt_succ_self _⟩
  · replace h := bif_f hb8 h
    refine AW.exit ?_
    refine AW.seq ?_
    refine AW.reg hS [(4, .pv (.int .i64 (-1)))] [.row 76 3 (List.map Var.pv l1) false, .var [.pv (.str x2)]] ?_ ?_
    · exact dk
    refine AW.ret ?_
    cases h
    exact fin

set_option maxHeartbeats 4000000 in
theorem g_F45 {O : Orc} (hS : Sound env O) (hpf : O.pf = pfn) (c_F83 : C_F83 O) (gid1 : Int) (gnext2 : Int) (name3 : Str) (l4 : List Var) (r5 : Int) (h : F45 gid1 gnext2 name3 l4 = some r5) : Good env 45 [.agg [.pv (.int .i64 gid1), .pv (.int .i64 gnext2), .vec 0 (List.length l4)], .pv (.str name3)] [.row 76 3 (List.map Var.pv l4) false] [.pv (.int .i64 r5)] [.row 76 3 (List.map Var.pv l4) false] := by
  have pf_83 : O.pf 83 = false := by rw [hpf]; rfl
  refine Good.start (fn := Tryd.f45) (N := 9) fn_45 rfl rfl (by simp) [] _ rfl rfl ?_
  rw [F45] at h
  refine AW.seq ?_
  refine AW.reg hS [(2, .ref 1 0), (3, .ref 2 0)] [.row 76 3 (List.map Var.pv l4) false, .var [.pv (.int .i64 gid1), .pv (.int .i64 gnext2), .vec 0 (List.length l4)], .var [.pv (.str name3)]] ?_ ?_
  · exact dk
  refine AW.seq ?_
  replace h := obs h; obtain ⟨r6, q7, h⟩ := h
  have f8 := c_F83 l4 name3 r6 q7
  try dsimp only at f8
  have e9 : ecall O [.row 76 3 (List.map Var.pv l4) false, .var [.pv (.int .i64 gid1), .pv (.int .i64 gnext2), .vec 0 (List.length l4)], .var [.pv (.str name3)]] 83 [.vec 0 (List.length l4), .fn 84 [2]] = some (retAV [.pv (.int .i64 r6)], [.row 76 3 (List.map Var.pv l4) false, .var [.pv (.int .i64 gid1), .pv (.int .i64 gnext2), .vec 0 (List.length l4)], .var [.pv (.str name3)]]) := ecall_eq rfl rfl rfl f8 rfl rfl rfl
  refine AW.reg hS [(4, .pv (.int .i64 r6))] [.row 76 3 (List.map Var.pv l4) false, .var [.pv (.int .i64 gid1), .pv (.int .i64 gnext2), .vec 0 (List.length l4)], .var [.pv (.str name3)]] ?_ ?_
  · exact dk1 (an pf_83 e9)
  refine AW.ret ?_
  cases h
  exact fin

set_option maxHeartbeats 4000000 in
theorem g_F35 {O : Orc} (hS : Sound env O) (hpf : O.pf = pfn) (c_L_SContains : C_L_SContains O) (v1 : Str) (r2 : Bool) (h : F35 v1 = some r2) : Good env 35 [.pv (.str v1)] [] [.pv (.bool r2)] [] := by
  have pf_36 : O.pf 36 = true := by rw [hpf]; rfl
  refine Good.start (fn := Tryd.f35) (N := 5) fn_35 rfl rfl (by simp) [] _ rfl rfl ?_
  rw [F35] at h
  refine AW.seq ?_
  refine AW.reg hS [(0, .pv (.str v1))] [] ?_ ?_
  · exact dk
  refine AW.seq ?_
  replace h := obs h; obtain ⟨ok3, q4, h⟩ := h
  have f5 := c_L_SContains v1 [0] ok3 q4
  try dsimp only at f5
  try simp only [List.map_cons, List.map_nil, P22_eq, GOp.pv_eq, Var.pv_eq, P72_eq, GEnv.pv_eq] at f5
  refine AW.reg hS [(2, .pv (.bool ok3))] [] ?_ ?_
  · exact dk1 (an pf_36 f5)
  refine AW.ret ?_
  cases h
  exact fin

set_option maxHeartbeats 4000000 in
theorem g_F72 {O : Orc} (hS : Sound env O) (hpf : O.pf = pfn) (c_F35 : C_F35 O) (s1 : List Str) (r2 : Int) (h : F72 s1 = some r2) : Good env 72 [.pv (.slice (List.map PV.str s1)), .fn 35 []] [] [.pv (.int .i64 r2)] [] := by
  have pf_35 : O.pf 35 = true := by rw [hpf]; rfl
  refine Good.start (fn := Tryd.f72) (N := 19) fn_72 rfl rfl (by simp) [] _ rfl rfl ?_
  rw [F72] at h
  refine AW.seq ?_
  refine AW.reg hS [(0, .pv (.slice (List.map PV.str s1))), (1, .fn 35 [])] [] ?_ ?_
  · exact dk
  refine AW.seq ?_
  refine AW.seq ?_
  refine AW.reg hS [(0, .pv (.slice (List.map PV.str s1))), (1, .fn 35 []), (7, .pv (.int .i64 (s1.length : Int))), (8, .pv (.int .i64 0))] [] ?_ ?_
  · exact dk
  refine AW.block ?_
  refine AW.weak (Weak.slots (L := [(0, .pv (.slice (List.map PV.str s1))), (1, .fn 35 []), (7, .pv (.int .i64 (s1.length : Int))), (8, .pv (.int .i64 0))]) ⟨rfl, rfl, rfl, rfl, trivial⟩) ?_
  refine AW.loopI (α := Nat × Int) (fun (_, i3) => ⟨sl [(0, .pv (.slice (List.map PV.str s1))), (1, .fn 35 []), (7, .pv (.int .i64 (s1.length : Int))), (8, .pv (.int .i64 i3))], 19, []⟩) (fun x => iter (F72_b1 s1) x.1 x.2 = some r2) (fun x => x.1) (BIG, 0) h ?_
  clear h
  intro ⟨n15, i3⟩ h
  replace h := iter_some h; obtain ⟨m6, rfl, h⟩ := h
  rw [F72_b1] at h
  try dsimp only at h
  show AW _ _ _ _ ⟨sl [(0, .pv (.slice (List.map PV.str s1))), (1, .fn 35 []), (7, .pv (.int .i64 (s1.length : Int))), (8, .pv (.int .i64 i3))], 19, []⟩
  refine AW.seq ?_
  refine AW.reg hS [(0, .pv (.slice (List.map PV.str s1))), (1, .fn 35 []), (7, .pv (.int .i64 (s1.length : Int))), (8, .pv (.int .i64 i3)), (9, .pv (.bool (decide (i3 < (s1.length : Int)))))] [] ?_ ?_
  · exact dk
  refine AW.seq ?_
  refine AW.cond (b := decide (i3 < (s1.length : Int))) rfl (fun hb7 => ?_) (fun hb7 => ?_)
  · replace h := bif_t hb7 h
    refine AW.skip ?_
    refine AW.seq ?_
    refine AW.block ?_
    refine AW.seq ?_
    refine AW.reg hS [(0, .pv (.slice (List.map PV.str s1))), (1, .fn 35 []), (5, .pv (.int .i64 i3)), (7, .pv (.int .i64 (s1.length : Int))), (8, .pv (.int .i64 i3))] [] ?_ ?_
    · exact dk
    refine AW.seq ?_
    replace h := obs h; obtain ⟨w8, q9, h⟩ := h
    have f10 := lidx_f q9
    replace h := obs h; obtain ⟨r11, q12, h⟩ := h
    have f13 := c_F35 w8 r11 q12
    try dsimp only at f13
    refine AW.reg hS [(0, .pv (.slice (List.map PV.str s1))), (1, .fn 35 []), (5, .pv (.int .i64 i3)), (7, .pv (.int .i64 (s1.length : Int))), (8, .pv (.int .i64 i3)), (16, .pv (.bool r11))] [] ?_ ?_
    · exact dk1 (an f10.1 (an f10.2.1 (an pf_35 f13)))
    refine AW.cond (b := r11) rfl (fun hb14 => ?_) (fun hb14 => ?_)
    · replace h := bif_t hb14 h
      refine AW.seq ?_
      refine AW.reg hS [(4, .pv (.int .i64 i3))] [] ?_ ?_
      · exact dk
      refine AW.ret ?_
      cases h
      exact fin
    · replace h := bif_f hb14 h
      refine AW.skip ?_
      refine AW.reg hS [(0, .pv (.slice (List.map PV.str s1))), (1, .fn 35 []), (7, .pv (.int .i64 (s1.length : Int))), (8, .pv (.int .i64 (IntKind.wrap .i64 (i3 + 1))))] [] ?_ ?_
      · exact dk
      exact ⟨(m6, IntKind.wrap .i64 (i3 + 1)), h, (Weak.norm (m := 0) (Nat.le_of_ble_eq_true rfl) ⟨rfl, rfl, rfl, rfl, trivial⟩ rfl rfl rfl), Nat.lt_succ_self _⟩
  · replace h := bif_f hb7 h
    refine AW.exit ?_
    refine AW.seq ?_
    refine AW.reg hS [(4, .pv (.int .i64 (-1)))] [] ?_ ?_
    · exact dk
    refine AW.ret ?_
    cases h
    exact fin

set_option maxHeartbeats 4000000 in
theorem g_F34 {O : Orc} (hS : Sound env O) (hpf : O.pf = pfn) (c_F72 : C_F72 O) (s1 : List Str) (r2 : Bool) (h : F34 s1 = some r2) : Good env 34 [.pv (.slice (List.map PV.str s1)), .fn 35 []] [] [.pv (.bool r2)] [] := by
  have pf_72 : O.pf 72 = false := by rw [hpf]; rfl
  refine Good.start (fn := Tryd.f34) (N := 9) fn_34 rfl rfl (by simp) [] _ rfl rfl ?_
  rw [F34] at h
  refine AW.seq ?_
  refine AW.reg hS [(0, .pv (.slice (List.map PV.str s1))), (1, .fn 35 [])] [] ?_ ?_
  · exact dk
  refine AW.seq ?_
  replace h := obs h; obtain ⟨r3, q4, h⟩ := h
  have f5 := c_F72 s1 r3 q4
  try dsimp only at f5
  have e6 : ecall O [] 72 [.pv (.slice (List.map PV.str s1)), .fn 35 []] = some (retAV [.pv (.int .i64 r3)], []) := ecall_eq rfl rfl rfl f5 rfl rfl rfl
  refine AW.reg hS [(4, .pv (.bool (decide (0 ≤ r3))))] [] ?_ ?_
  · exact dk1 (an pf_72 e6)
  refine AW.ret ?_
  cases h
  exact fin

set_option maxHeartbeats 4000000 in
theorem g_F9 {O : Orc} (hS : Sound env O) (hpf : O.pf = pfn) (c_F34 : C_F34 O) (c_L_Join : C_L_Join O) (values1 : List Str) (r2 : Str) (r3 : Int) (h : F9 values1 = some (r2, r3)) : Good env 9 [.pv (.slice (List.map PV.str values1))] [] [.pv (.str r2), .pv (.int .i64 r3)] [] := by
  have pf_34 : O.pf 34 = false := by rw [hpf]; rfl
  have pf_37 : O.pf 37 = true := by rw [hpf]; rfl
  refine Good.start (fn := Tryd.f9) (N := 36) fn_9 rfl rfl (by simp) [] _ rfl rfl ?_
  rw [F9] at h
  refine AW.seq ?_
  refine AW.reg hS [(0, .pv (.slice (List.map PV.str values1)))] [] ?_ ?_
  · exact dk
  refine AW.seq ?_
  refine AW.block ?_
  refine AW.seq ?_
  refine AW.reg hS [(0, .pv (.slice (List.map PV.str values1))), (7, .pv (.bool (decide ((values1.length : Int) = 0))))] [] ?_ ?_
  · exact dk
  refine AW.cond (b := decide ((values1.length : Int) = 0)) rfl (fun hb4 => ?_) (fun hb4 => ?_)
  · replace h := bif_t hb4 h
    refine AW.seq ?_
    refine AW.reg hS [(2, .pv (.str [])), (3, .pv (.int .i64 1))] [] ?_ ?_
    · exact dk
    refine AW.ret ?_
    cases h
    exact fin
  · replace h := bif_f hb4 h
    refine AW.seq ?_
    refine AW.reg hS [(0, .pv (.slice (List.map PV.str values1))), (11, .pv (.bool (decide (256 < (values1.length : Int)))))] [] ?_ ?_
    · exact dk
    refine AW.cond (b := decide (256 < (values1.length : Int))) rfl (fun hb5 => ?_) (fun hb5 => ?_)
    · replace h := bif_t hb5 h
      refine AW.seq ?_
      refine AW.reg hS [(2, .pv (.str [])), (3, .pv (.int .i64 22))] [] ?_ ?_
      · exact dk
      refine AW.ret ?_
      cases h
      exact fin
    · replace h := bif_f hb5 h
      refine AW.seq ?_
      replace h := obs h; obtain ⟨r6, q7, h⟩ := h
      have f8 := c_F34 values1 r6 q7
      try dsimp only at f8
      have e9 : ecall O [] 34 [.pv (.slice (List.map PV.str values1)), .fn 35 []] = some (retAV [.pv (.bool r6)], []) := ecall_eq rfl rfl rfl f8 rfl rfl rfl
      refine AW.reg hS [(0, .pv (.slice (List.map PV.str values1))), (15, .pv (.bool r6))] [] ?_ ?_
      · exact dk1 (an pf_34 e9)
      refine AW.cond (b := r6) rfl (fun hb10 => ?_) (fun hb10 => ?_)
      · replace h := bif_t hb10 h
        refine AW.seq ?_
        refine AW.reg hS [(2, .pv (.str [])), (3, .pv (.int .i64 2))] [] ?_ ?_
        · exact dk
        refine AW.ret ?_
        cases h
        exact fin
      · replace h := bif_f hb10 h
        refine AW.skip ?_
        refine AW.seq ?_
        refine AW.reg hS [(0, .pv (.slice (List.map PV.str values1))), (4, .pv (.int .i64 (IntKind.wrap .i64 ((values1.length : Int) - 1))))] [] ?_ ?_
        · exact dk
        refine AW.seq ?_
        refine AW.seq ?_
        refine AW.reg hS [(0, .pv (.slice (List.map PV.str values1))), (4, .pv (.int .i64 (IntKind.wrap .i64 ((values1.length : Int) - 1)))), (21, .pv (.slice (List.map PV.str values1))), (22, .pv (.int .i64 (values1.length : Int))), (23, .pv (.int .i64 0))] [] ?_ ?_
        · exact dk
        refine AW.block ?_
        refine AW.weak (Weak.slots (L := [(0, .pv (.slice (List.map PV.str values1))), (4, .pv (.int .i64 (IntKind.wrap .i64 ((values1.length : Int) - 1)))), (21, .pv (.slice (List.map PV.str values1))), (22, .pv (.int .i64 (values1.length : Int))), (23, .pv (.int .i64 0))]) ⟨rfl, rfl, rfl, rfl, rfl, trivial⟩) ?_
        refine AW.loopI (α := Nat × Int × Int) (fun (_, n11, i12) => ⟨sl [(0, .pv (.slice (List.map PV.str values1))), (4, .pv (.int .i64 n11)), (21, .pv (.slice (List.map PV.str values1))), (22, .pv (.int .i64 (values1.length : Int))), (23, .pv (.int .i64 i12))], 36, []⟩) (fun x => iter (F9_b1 values1) x.1 x.2 = some (r2, r3)) (fun x => x.1) (BIG, (IntKind.wrap .i64 ((values1.length : Int) - 1), 0)) h ?_
        clear h
        intro ⟨n24, n11, i12⟩ h
        replace h := iter_some h; obtain ⟨m15, rfl, h⟩ := h
        rw [F9_b1] at h
        try dsimp only at h
        show AW _ _ _ _ ⟨sl [(0, .pv (.slice (List.map PV.str values1))), (4, .pv (.int .i64 n11)), (21, .pv (.slice (List.map PV.str values1))), (22, .pv (.int .i64 (values1.length : Int))), (23, .pv (.int .i64 i12))], 36, []⟩
        refine AW.seq ?_
        refine AW.reg hS [(0, .pv (.slice (List.map PV.str values1))), (4, .pv (.int .i64 n11)), (21, .pv (.slice (List.map PV.str values1))), (22, .pv (.int .i64 (values1.length : Int))), (23, .pv (.int .i64 i12)), (24, .pv (.bool (decide (i12 < (values1.length : Int)))))] [] ?_ ?_
        · exact dk
        refine AW.seq ?_
        refine AW.cond (b := decide (i12 < (values1.length : Int))) rfl (fun hb16 => ?_) (fun hb16 => ?_)
        · replace h := bif_t hb16 h
          refine AW.skip ?_
          refine AW.seq ?_
          refine AW.block ?_
          refine AW.seq ?_
          replace h := obs h; obtain ⟨w17, q18, h⟩ := h
          have f19 := lidx_f q18
          refine AW.reg hS [(0, .pv (.slice (List.map PV.str values1))), (4, .pv (.int .i64 n11)), (6, .pv (.str w17)), (21, .pv (.slice (List.map PV.str values1))), (22, .pv (.int .i64 (values1.length : Int))), (23, .pv (.int .i64 i12))] [] ?_ ?_
          · exact dk1 (an f19.1 f19.2.1)
          refine AW.seq ?_
          refine AW.reg hS [(0, .pv (.slice (List.map PV.str values1))), (4, .pv (.int .i64 (IntKind.wrap .i64 (n11 + (w17.length : Int))))), (21, .pv (.slice (List.map PV.str values1))), (22, .pv (.int .i64 (values1.length : Int))), (23, .pv (.int .i64 i12))] [] ?_ ?_
          · exact dk
          refine AW.seq ?_
          refine AW.reg hS [(0, .pv (.slice (List.map PV.str values1))), (4, .pv (.int .i64 (IntKind.wrap .i64 (n11 + (w17.length : Int))))), (21, .pv (.slice (List.map PV.str values1))), (22, .pv (.int .i64 (values1.length : Int))), (23, .pv (.int .i64 i12)), (32, .pv (.bool (decide (65536 < IntKind.wrap .i64 (n11 + (w17.length : Int))))))] [] ?_ ?_
          · exact dk
          refine AW.cond (b := decide (65536 < IntKind.wrap .i64 (n11 + (w17.length : Int)))) rfl (fun hb20 => ?_) (fun hb20 => ?_)
          · replace h := bif_t hb20 h
            refine AW.seq ?_
            refine AW.reg hS [(2, .pv (.str [])), (3, .pv (.int .i64 4))] [] ?_ ?_
            · exact dk
            refine AW.ret ?_
            cases h
            exact fin
          · replace h := bif_f hb20 h
            refine AW.skip ?_
            refine AW.reg hS [(0, .pv (.slice (List.map PV.str values1))), (4, .pv (.int .i64 (IntKind.wrap .i64 (n11 + (w17.length : Int))))), (21, .pv (.slice (List.map PV.str values1))), (22, .pv (.int .i64 (values1.length : Int))), (23, .pv (.int .i64 (IntKind.wrap .i64 (i12 + 1))))] [] ?_ ?_
            · exact dk
            exact ⟨(m15, (IntKind.wrap .i64 (n11 + (w17.length : Int)), IntKind.wrap .i64 (i12 + 1))), h, (Weak.norm (m := 0) (Nat.le_of_ble_eq_true rfl) ⟨rfl, rfl, rfl, rfl, rfl, trivial⟩ rfl rfl rfl), Nat.lt_succ_self _⟩
        · replace h := bif_f hb16 h
          refine AW.exit ?_
          refine AW.seq ?_
          replace h := obs h; obtain ⟨s21, q22, h⟩ := h
          have f23 := c_L_Join values1 [0] s21 q22
          try dsimp only at f23
          try simp only [List.map_cons, List.map_nil, P22_eq, GOp.pv_eq, Var.pv_eq, P72_eq, GEnv.pv_eq] at f23
          refine AW.reg hS [(2, .pv (.str s21)), (3, .pv (.int .i64 0))] [] ?_ ?_
          · exact dk1 (an pf_37 f23)
          refine AW.ret ?_
          cases h
          exact fin

set_option maxHeartbeats 4000000 in
theorem g_F48 {O : Orc} (hS : Sound env O) (hpf : O.pf = pfn) (c_F69 : C_F69 O) (g1 : GEnv) (name2 : Str) (values3 : List Str) (r4 : GEnv) (r5 : Int) (h : F48 g1 name2 values3 = some (r4, r5)) : Good env 48 [.pv (.agg [.int .i64 g1.id_, .int .i64 g1.next_, .slice (List.map Var.pv g1.vars_)]), .pv (.str name2), .pv (.slice (List.map PV.str values3))] [] [.pv (.agg [.int .i64 r4.id_, .int .i64 r4.next_, .slice (List.map Var.pv r4.vars_)]), .pv (.int .i64 r5)] [] := by
  have pf_69 : O.pf 69 = false := by rw [hpf]; rfl
  refine Good.start (fn := Tryd.f48) (N := 34) fn_48 rfl rfl (by simp) [] _ rfl rfl ?_
  rw [F48] at h
  refine AW.seq ?_
  refine AW.reg hS [(1, .pv (.str name2)), (2, .pv (.slice (List.map PV.str values3))), (3, .ref 0 0), (6, .ref 1 0)] [.var [.pv (.int .i64 g1.id_), .pv (.int .i64 g1.next_), .pv (.slice (List.map Var.pv g1.vars_))], .var [.pv (.int .i64 0), .pv (.int .i64 0), .nils]] ?_ ?_
  · exact dk
  refine AW.seq ?_
  refine AW.seq ?_
  refine AW.reg hS [(1, .pv (.str name2)), (2, .pv (.slice (List.map PV.str values3))), (3, .ref 0 0), (6, .ref 1 0), (16, .pv (.bool (decide (64 ≤ (g1.vars_.length : Int)) || decide (1048575 < g1.next_))))] [.var [.pv (.int .i64 g1.id_), .pv (.int .i64 g1.next_), .pv (.slice (List.map Var.pv g1.vars_))], .var [.pv (.int .i64 0), .pv (.int .i64 0), .nils]] ?_ ?_
  · clear h
    exact dg
  refine AW.cond (b := (decide (64 ≤ (g1.vars_.length : Int)) || decide (1048575 < g1.next_))) rfl (fun hb6 => ?_) (fun hb6 => ?_)
  · replace h := bif_t hb6 h
    refine AW.seq ?_
    refine AW.reg hS [(6, .ref 1 0), (7, .pv (.int .i64 22))] [.var [.pv (.int .i64 g1.id_), .pv (.int .i64 g1.next_), .pv (.slice (List.map Var.pv g1.vars_))], .var [.pv (.int .i64 g1.id_), .pv (.int .i64 g1.next_), .pv (.slice (List.map Var.pv g1.vars_))]] ?_ ?_
    · exact dk
    refine AW.ret ?_
    cases h
    exact fin
  · replace h := bif_f hb6 h
    refine AW.skip ?_
    refine AW.seq ?_
    replace h := obs h; obtain ⟨r7, q8, h⟩ := h
    have f9 := c_F69 g1.vars_ r7 q8
    try dsimp only at f9
    have e10 : ecall O [.var [.pv (.int .i64 g1.id_), .pv (.int .i64 g1.next_), .pv (.slice (List.map Var.pv g1.vars_))], .var [.pv (.int .i64 0), .pv (.int .i64 0), .nils]] 69 [.pv (.slice (List.map Var.pv g1.vars_))] = some (retAV [.vec 2 (List.length r7)], [.var [.pv (.int .i64 g1.id_), .pv (.int .i64 g1.next_), .pv (.slice (List.map Var.pv g1.vars_))], .var [.pv (.int .i64 0), .pv (.int .i64 0), .nils], .row 76 3 (List.map Var.pv r7) false]) := ecall_eq rfl rfl rfl f9 rfl rfl rfl
    replace h := obs h; obtain ⟨out11, q12, h⟩ := h
    have f13 := appO_f q12
    try simp only [List.length_cons, List.length_nil, List.length_replicate, Nat.zero_add, Nat.reduceAdd, Nat.reduceLeDiff, Nat.add_zero, Nat.reduceMul] at f13
    refine AW.dregV mixed hS [2, 9, 11] [(0, 0), (1, 0), (2, 0), (3, 0), (3, 1), (4, 0), (4, 1), (5, 0), (5, 1), (6, 0), (6, 1), (7, 0), (7, 1), (8, 0), (8, 1), (9, 1), (10, 2), (11, 2)] [.ref 0 2, .pv (.slice (List.map Var.pv g1.vars_)), .vec 2 (List.length r7), .ref 0 1, .pv (.int .i64 g1.next_), .pv (.str name2), .pv (.slice (List.map PV.str values3)), .pv (.agg [.int .i64 g1.next_, .str name2, .slice (List.map PV.str values3)]), .full (List.map Var.pv [Var.mk g1.next_ name2 values3]), .vec 2 (List.length out11), .ref 0 2, .any] [[.var [.pv (.int .i64 g1.id_), .pv (.int .i64 g1.next_), .pv (.slice (List.map Var.pv g1.vars_))], .var [.pv (.int .i64 0), .pv (.int .i64 0), .nils]], [.var [.pv (.int .i64 g1.id_), .pv (.int .i64 g1.next_), .pv (.slice (List.map Var.pv g1.vars_))], .var [.pv (.int .i64 0), .pv (.int .i64 0), .nils], .row 76 3 (List.map Var.pv r7) false], [.var [.pv (.int .i64 g1.id_), .pv (.int .i64 g1.next_), .pv (.slice (List.map Var.pv g1.vars_))], .var [.pv (.int .i64 0), .pv (.int .i64 0), .nils], .row 76 3 (List.map Var.pv out11) false], [.var [.pv (.int .i64 g1.id_), .pv (.int .i64 g1.next_), .vec 2 (List.length out11)], .var [.pv (.int .i64 0), .pv (.int .i64 0), .nils], .row 76 3 (List.map Var.pv out11) false]] [(18, .ref 0 2), (19, .pv (.slice (List.map Var.pv g1.vars_))), (20, .vec 2 (List.length r7)), (21, .ref 0 1), (22, .pv (.int .i64 g1.next_)), (23, .pv (.str name2)), (24, .pv (.slice (List.map PV.str values3))), (25, .pv (.agg [.int .i64 g1.next_, .str name2, .slice (List.map PV.str values3)])), (26, .full (List.map Var.pv [Var.mk g1.next_ name2 values3])), (27, .vec 2 (List.length out11)), (28, .ref 0 2), (1, .pv (.str name2)), (2, .pv (.slice (List.map PV.str values3))), (3, .ref 0 0), (6, .ref 1 0), (16, .pv (.bool (decide (64 ≤ (g1.vars_.length : Int)) || decide (1048575 < g1.next_))))] (by kernel_rfl) (by kernel_rfl) (by kernel_rfl) ?_ [(3, .ref 0 0), (6, .ref 1 0)] [.var [.pv (.int .i64 g1.id_), .pv (.int .i64 g1.next_), .vec 2 (List.length out11)], .var [.pv (.int .i64 0), .pv (.int .i64 0), .nils], .row 76 3 (List.map Var.pv out11) false] ⟨rfl, rfl, trivial⟩ rfl ?_
    · repeat' (first | exact Facts.nil | refine Facts.cons rfl rfl rfl ?_ ?_)
      all_goals exact dv1 (an pf_69 (an e10 (an f13.1 f13.2)))
    clear f13
    refine AW.seq ?_
    refine AW.reg hS [(3, .ref 0 0), (6, .ref 1 0)] [.var [.pv (.int .i64 g1.id_), .pv (.int .i64 (IntKind.wrap .i64 (g1.next_ + 1))), .vec 2 (List.length out11)], .var [.pv (.int .i64 0), .pv (.int .i64 0), .nils], .row 76 3 (List.map Var.pv out11) false] ?_ ?_
    · exact dk
    refine AW.seq ?_
    refine AW.weak (Weak.freeze 2 rfl) ?_
    refine AW.weak (σ' := ⟨sl [(3, .ref 0 0), (6, .ref 1 0)], 34, [.var [.pv (.int .i64 g1.id_), .pv (.int .i64 (IntKind.wrap .i64 (g1.next_ + 1))), .vec 2 (List.length out11)], .var [.pv (.int .i64 0), .pv (.int .i64 0), .nils], .row 76 3 (List.map Var.pv out11) true]⟩) (Weak.slots ⟨rfl, rfl, trivial⟩) ?_
    refine AW.weak (Weak.cellPV 0 2 (cs := [.pv (.int .i64 g1.id_), .pv (.int .i64 (IntKind.wrap .i64 (g1.next_ + 1))), .vec 2 (List.length out11)]) (a := .vec 2 (List.length out11)) (p := .slice (List.map Var.pv out11)) rfl rfl (by first | rfl | simp only [toPV, List.getElem?_cons_zero, List.getElem?_cons_succ, List.length_map, if_true, List.map_nil])) ?_
    refine AW.weak (σ' := ⟨sl [(3, .ref 0 0), (6, .ref 1 0)], 34, [.var [.pv (.int .i64 g1.id_), .pv (.int .i64 (IntKind.wrap .i64 (g1.next_ + 1))), .pv (.slice (List.map Var.pv out11))], .var [.pv (.int .i64 0), .pv (.int .i64 0), .nils], .row 76 3 (List.map Var.pv out11) true]⟩) (Weak.of_eq (Weak.slots (L := [(3, .ref 0 0), (6, .ref 1 0)]) ⟨rfl, rfl, trivial⟩) (by first | rfl | (simp only [List.length_set, List.length_map]; rfl))) ?_
    refine AW.reg hS [(6, .ref 1 0), (7, .pv (.int .i64 0))] [.var [.pv (.int .i64 g1.id_), .pv (.int .i64 (IntKind.wrap .i64 (g1.next_ + 1))), .pv (.slice (List.map Var.pv out11))], .var [.pv (.int .i64 g1.id_), .pv (.int .i64 (IntKind.wrap .i64 (g1.next_ + 1))), .pv (.slice (List.map Var.pv out11))], .row 76 3 (List.map Var.pv out11) true] ?_ ?_
    · exact dk
    refine AW.ret ?_
    cases h
    exact fin

set_option maxHeartbeats 4000000 in
theorem g_F17 {O : Orc} (hS : Sound env O) (hpf : O.pf = pfn) (c_F42 : C_F42 O) (c_F43 : C_F43 O) (c_F44 : C_F44 O) (c_F45 : C_F45 O) (c_L_DeleteV : C_L_DeleteV O) (c_F9 : C_F9 O) (c_L_Clone : C_L_Clone O) (c_F48 : C_F48 O) (l1 : List GEnv) (group2 : Int) (name3 : Str) (values4 : List Str) (r5 : List GEnv) (r6 : Int) (h : F17 l1 group2 name3 values4 = some (r5, r6)) : Good env 17 [.pv (.slice (List.map GEnv.pv l1)), .pv (.int .i64 group2), .pv (.str name3), .pv (.slice (List.map PV.str values4))] [] [.pv (.slice (List.map GEnv.pv r5)), .pv (.int .i64 r6)] [] := by
  have pf_9 : O.pf 9 = true := by rw [hpf]; rfl
  have pf_42 : O.pf 42 = false := by rw [hpf]; rfl
  have pf_43 : O.pf 43 = true := by rw [hpf]; rfl
  have pf_44 : O.pf 44 = true := by rw [hpf]; rfl
  have pf_45 : O.pf 45 = false := by rw [hpf]; rfl
  have pf_46 : O.pf 46 = false := by rw [hpf]; rfl
  have pf_47 : O.pf 47 = true := by rw [hpf]; rfl
  have pf_48 : O.pf 48 = true := by rw [hpf]; rfl
  refine Good.start (fn := Tryd.f17) (N := 98) fn_17 rfl rfl (by simp) [] _ rfl rfl ?_
  rw [F17] at h
  refine AW.seq ?_
  refine AW.reg hS [(0, .pv (.slice (List.map GEnv.pv l1))), (1, .pv (.int .i64 group2)), (2, .pv (.str name3)), (3, .pv (.slice (List.map PV.str values4)))] [] ?_ ?_
  · exact dk
  refine AW.seq ?_
  replace h := obs h; obtain ⟨⟨r7, m8⟩, q9, h⟩ := h
  dsimp only at h
  have f10 := c_F42 l1 r7 m8 q9
  try dsimp only at f10
  have e11 : ecall O [] 42 [.pv (.slice (List.map GEnv.pv l1))] = some (retAV [.vec 0 (List.length r7)], [.tree 74 3 2 76 3 m8 (List.map GEnv.pv r7)]) := ecall_eq rfl rfl rfl f10 rfl rfl rfl
  refine AW.reg hS [(0, .pv (.slice (List.map GEnv.pv l1))), (1, .pv (.int .i64 group2)), (2, .pv (.str name3)), (3, .pv (.slice (List.map PV.str values4))), (10, .vec 0 (List.length r7))] [.tree 74 3 2 76 3 m8 (List.map GEnv.pv r7)] ?_ ?_
  · exact dk1 (an pf_42 e11)
  refine AW.seq ?_
  replace h := obs h; obtain ⟨r12, q13, h⟩ := h
  have f14 := c_F43 l1 group2 r12 q13
  try dsimp only at f14
  refine AW.reg hS [(2, .pv (.str name3)), (3, .pv (.slice (List.map PV.str values4))), (10, .vec 0 (List.length r7)), (11, .pv (.int .i64 r12))] [.tree 74 3 2 76 3 m8 (List.map GEnv.pv r7)] ?_ ?_
  · exact dk1 (an pf_43 f14)
  refine AW.seq ?_
  refine AW.block ?_
  refine AW.seq ?_
  refine AW.reg hS [(2, .pv (.str name3)), (3, .pv (.slice (List.map PV.str values4))), (10, .vec 0 (List.length r7)), (11, .pv (.int .i64 r12)), (22, .pv (.bool (decide (r12 < 0))))] [.tree 74 3 2 76 3 m8 (List.map GEnv.pv r7)] ?_ ?_
  · exact dk
  refine AW.cond (b := decide (r12 < 0)) rfl (fun hb15 => ?_) (fun hb15 => ?_)
  · replace h := bif_t hb15 h
    refine AW.seq ?_
    refine AW.reg hS [(8, .vec 0 (List.length r7)), (9, .pv (.int .i64 1))] [.tree 74 3 2 76 3 m8 (List.map GEnv.pv r7)] ?_ ?_
    · exact dk
    refine AW.weak (Weak.treeRow 0 rfl) ?_
    refine AW.weak (σ' := ⟨sl [(8, .vec 0 (List.length r7)), (9, .pv (.int .i64 1))], 98, [.row 74 3 (List.map GEnv.pv r7) false]⟩) (Weak.of_eq (Weak.slots (L := [(8, .vec 0 (List.length r7)), (9, .pv (.int .i64 1))]) ⟨rfl, rfl, trivial⟩) (by first | rfl | (simp only [List.length_set, List.length_map]; rfl))) ?_
    refine AW.weak (Weak.freeze 0 rfl) ?_
    refine AW.weak (σ' := ⟨sl [(8, .vec 0 (List.length r7)), (9, .pv (.int .i64 1))], 98, [.row 74 3 (List.map GEnv.pv r7) true]⟩) (Weak.slots ⟨rfl, rfl, trivial⟩) ?_
    refine AW.ret ?_
    cases h
    exact fin
  · replace h := bif_f hb15 h
    refine AW.seq ?_
    replace h := obs h; obtain ⟨r16, q17, h⟩ := h
    have f18 := c_F44 name3 r16 q17
    try dsimp only at f18
    refine AW.reg hS [(2, .pv (.str name3)), (3, .pv (.slice (List.map PV.str values4))), (10, .vec 0 (List.length r7)), (11, .pv (.int .i64 r12)), (26, .pv (.bool (!r16)))] [.tree 74 3 2 76 3 m8 (List.map GEnv.pv r7)] ?_ ?_
    · exact dk1 (an pf_44 f18)
    refine AW.cond (b := !r16) rfl (fun hb19 => ?_) (fun hb19 => ?_)
    · replace h := bif_t hb19 h
      refine AW.seq ?_
      refine AW.reg hS [(8, .vec 0 (List.length r7)), (9, .pv (.int .i64 6))] [.tree 74 3 2 76 3 m8 (List.map GEnv.pv r7)] ?_ ?_
      · exact dk
      refine AW.weak (Weak.treeRow 0 rfl) ?_
      refine AW.weak (σ' := ⟨sl [(8, .vec 0 (List.length r7)), (9, .pv (.int .i64 6))], 98, [.row 74 3 (List.map GEnv.pv r7) false]⟩) (Weak.of_eq (Weak.slots (L := [(8, .vec 0 (List.length r7)), (9, .pv (.int .i64 6))]) ⟨rfl, rfl, trivial⟩) (by first | rfl | (simp only [List.length_set, List.length_map]; rfl))) ?_
      refine AW.weak (Weak.freeze 0 rfl) ?_
      refine AW.weak (σ' := ⟨sl [(8, .vec 0 (List.length r7)), (9, .pv (.int .i64 6))], 98, [.row 74 3 (List.map GEnv.pv r7) true]⟩) (Weak.slots ⟨rfl, rfl, trivial⟩) ?_
      refine AW.ret ?_
      cases h
      exact fin
    · replace h := bif_f hb19 h
      refine AW.skip ?_
      refine AW.seq ?_
      replace h := obs h; obtain ⟨u20, q21, h⟩ := h
      have f22 := lidx_f q21
      replace h := obs h; obtain ⟨_, hoq2, h⟩ := h
      have hop2 := ltO_f hoq2
      refine AW.weak (Weak.open 0 (Int.toNat r12) (ys := List.map Var.pv u20.vars_) (cs := [.int .i64 u20.id_, .int .i64 u20.next_, .slice (List.map Var.pv u20.vars_)]) rfl hop2 (by rw [List.getElem?_map, f22.2.1]; rfl) rfl) ?_
      refine AW.weak (σ' := ⟨sl [(2, .pv (.str name3)), (3, .pv (.slice (List.map PV.str values4))), (10, .vec 0 (List.length r7)), (11, .pv (.int .i64 r12)), (26, .pv (.bool (!r16)))], 98, [.hrow 74 3 (List.map GEnv.pv r7) (Int.toNat r12) 2 1 (List.length u20.vars_), .row 76 3 (List.map Var.pv u20.vars_) false]⟩) (Weak.of_eq (Weak.slots (L := [(2, .pv (.str name3)), (3, .pv (.slice (List.map PV.str values4))), (10, .vec 0 (List.length r7)), (11, .pv (.int .i64 r12)), (26, .pv (.bool (!r16)))]) ⟨rfl, rfl, rfl, rfl, rfl, trivial⟩) (by first | rfl | (simp only [List.length_set, List.length_map]; rfl))) ?_
      replace h := obs h; obtain ⟨r23, q24, h⟩ := h
      have f25 := c_F45 u20.id_ u20.next_ name3 u20.vars_ r23 q24
      try dsimp only at f25
      have e26 : ecall O [.hrow 74 3 (List.map GEnv.pv r7) (Int.toNat r12) 2 1 (List.length u20.vars_), .row 76 3 (List.map Var.pv u20.vars_) false] 45 [.agg [.pv (.int .i64 u20.id_), .pv (.int .i64 u20.next_), .vec 1 (List.length u20.vars_)], .pv (.str name3)] = some (retAV [.pv (.int .i64 r23)], [.hrow 74 3 (List.map GEnv.pv r7) (Int.toNat r12) 2 1 (List.length u20.vars_), .row 76 3 (List.map Var.pv u20.vars_) false]) := ecall_eq rfl rfl rfl f25 rfl rfl rfl
      refine AW.reg hS [(2, .pv (.str name3)), (3, .pv (.slice (List.map PV.str values4))), (10, .vec 0 (List.length r7)), (11, .pv (.int .i64 r12)), (12, .pv (.int .i64 r23))] [.hrow 74 3 (List.map GEnv.pv r7) (Int.toNat r12) 2 1 (List.length u20.vars_), .row 76 3 (List.map Var.pv u20.vars_) false] ?_ ?_
      · exact dk1 (an f22.1 (an f22.2.1 (an f22.2.2 (an pf_45 e26))))
      refine AW.seq ?_
      refine AW.seq ?_
      refine AW.reg hS [(2, .pv (.str name3)), (3, .pv (.slice (List.map PV.str values4))), (10, .vec 0 (List.length r7)), (11, .pv (.int .i64 r12)), (12, .pv (.int .i64 r23)), (39, .pv (.bool (decide ((values4.length : Int) = 0))))] [.hrow 74 3 (List.map GEnv.pv r7) (Int.toNat r12) 2 1 (List.length u20.vars_), .row 76 3 (List.map Var.pv u20.vars_) false] ?_ ?_
      · exact dk
      refine AW.cond (b := decide ((values4.length : Int) = 0)) rfl (fun hb27 => ?_) (fun hb27 => ?_)
      · replace h := bif_t hb27 h
        refine AW.seq ?_
        refine AW.seq ?_
        refine AW.reg hS [(10, .vec 0 (List.length r7)), (11, .pv (.int .i64 r12)), (12, .pv (.int .i64 r23)), (41, .pv (.bool (decide (0 ≤ r23))))] [.hrow 74 3 (List.map GEnv.pv r7) (Int.toNat r12) 2 1 (List.length u20.vars_), .row 76 3 (List.map Var.pv u20.vars_) false] ?_ ?_
        · exact dk
        refine AW.cond (b := decide (0 ≤ r23)) rfl (fun hb28 => ?_) (fun hb28 => ?_)
        · replace h := bif_t hb28 h
          replace h := obs h; obtain ⟨⟨r29, y30⟩, q31, h⟩ := h
          dsimp only at h
          have f32 := c_L_DeleteV u20.vars_ r23 (IntKind.wrap .i64 (r23 + 1)) r29 y30 q31
          try dsimp only at f32
          have e33 : ecall O [.hrow 74 3 (List.map GEnv.pv r7) (Int.toNat r12) 2 1 (List.length u20.vars_), .row 76 3 (List.map Var.pv u20.vars_) false] 46 [.vec 1 (List.length u20.vars_), .pv (.int .i64 r23), .pv (.int .i64 (IntKind.wrap .i64 (r23 + 1)))] = some (retAV [.pv (.slice (List.map Var.pv r29))], [.hrow 74 3 (List.map GEnv.pv r7) (Int.toNat r12) 2 1 (List.length u20.vars_), .row 76 3 (List.map Var.pv y30) true]) := ecall_eq rfl rfl rfl f32 rfl rfl rfl
          refine AW.reg hS [(10, .vec 0 (List.length (List.set r7 (Int.toNat r12) (GEnv.mk u20.id_ u20.next_ r29))))] [.row 74 3 (List.map GEnv.pv (List.set r7 (Int.toNat r12) (GEnv.mk u20.id_ u20.next_ r29))) false, .row 76 3 (List.map Var.pv y30) true] ?_ ?_
          · simp -implicitDefEqProofs only [RUNS, qindex, Nat.reduceAdd, Nat.reduceLeDiff, Nat.reduceSub, reduceIte, Nat.reduceEqDiff, Nat.reduceLT, reduceCtorEq, Nat.reduceMul, Nat.reduceBEq, Int.reduceEq, if_true, if_false, eq_self, ne_eq, TYS, f22.1, f22.2.1, f22.2.2, pf_46, e33, storeHole.eq_1, Nat.reduceLeDiff] <;> (try simp only [List.length_take, List.length_drop, List.length_map])
          refine AW.seq ?_
          refine AW.reg hS [(8, .vec 0 (List.length (List.set r7 (Int.toNat r12) (GEnv.mk u20.id_ u20.next_ r29)))), (9, .pv (.int .i64 0))] [.row 74 3 (List.map GEnv.pv (List.set r7 (Int.toNat r12) (GEnv.mk u20.id_ u20.next_ r29))) false, .row 76 3 (List.map Var.pv y30) true] ?_ ?_
          · exact dk
          refine AW.weak (Weak.freeze 0 rfl) ?_
          refine AW.weak (σ' := ⟨sl [(8, .vec 0 (List.length (List.set r7 (Int.toNat r12) (GEnv.mk u20.id_ u20.next_ r29)))), (9, .pv (.int .i64 0))], 98, [.row 74 3 (List.map GEnv.pv (List.set r7 (Int.toNat r12) (GEnv.mk u20.id_ u20.next_ r29))) true, .row 76 3 (List.map Var.pv y30) true]⟩) (Weak.slots ⟨rfl, rfl, trivial⟩) ?_
          refine AW.ret ?_
          cases h
          exact fin
        · replace h := bif_f hb28 h
          refine AW.skip ?_
          refine AW.seq ?_
          refine AW.reg hS [(8, .vec 0 (List.length r7)), (9, .pv (.int .i64 0))] [.hrow 74 3 (List.map GEnv.pv r7) (Int.toNat r12) 2 1 (List.length u20.vars_), .row 76 3 (List.map Var.pv u20.vars_) false] ?_ ?_
          · exact dk
          refine AW.weak (Weak.freeze 1 rfl) ?_
          refine AW.weak (σ' := ⟨sl [(8, .vec 0 (List.length r7)), (9, .pv (.int .i64 0))], 98, [.hrow 74 3 (List.map GEnv.pv r7) (Int.toNat r12) 2 1 (List.length u20.vars_), .row 76 3 (List.map Var.pv u20.vars_) true]⟩) (Weak.slots ⟨rfl, rfl, trivial⟩) ?_
          refine AW.weak (Weak.close 0 (cs := [.int .i64 u20.id_, .int .i64 u20.next_, .slice (List.map Var.pv u20.vars_)]) (xs' := List.map GEnv.pv r7) rfl rfl (by simp only [List.length_map]) (by rw [List.getElem?_map, f22.2.1]; rfl) (set_self (by rw [List.getElem?_map, f22.2.1]; rfl))) ?_
          refine AW.weak (σ' := ⟨sl [(8, .vec 0 (List.length r7)), (9, .pv (.int .i64 0))], 98, [.row 74 3 (List.map GEnv.pv r7) false, .row 76 3 (List.map Var.pv u20.vars_) true]⟩) (Weak.of_eq (Weak.slots (L := [(8, .vec 0 (List.length r7)), (9, .pv (.int .i64 0))]) ⟨rfl, rfl, trivial⟩) (by first | rfl | (simp only [List.length_set, List.length_map]; rfl))) ?_
          refine AW.weak (Weak.freeze 0 rfl) ?_
          refine AW.weak (σ' := ⟨sl [(8, .vec 0 (List.length r7)), (9, .pv (.int .i64 0))], 98, [.row 74 3 (List.map GEnv.pv r7) true, .row 76 3 (List.map Var.pv u20.vars_) true]⟩) (Weak.slots ⟨rfl, rfl, trivial⟩) ?_
          refine AW.ret ?_
          cases h
          exact fin
      · replace h := bif_f hb27 h
        refine AW.skip ?_
        refine AW.seq ?_
        refine AW.seq ?_
        replace h := obs h; obtain ⟨⟨r34, r35⟩, q36, h⟩ := h
        dsimp only at h
        have f37 := c_F9 values4 r34 r35 q36
        try dsimp only at f37
        refine AW.reg hS [(2, .pv (.str name3)), (3, .pv (.slice (List.map PV.str values4))), (10, .vec 0 (List.length r7)), (11, .pv (.int .i64 r12)), (12, .pv (.int .i64 r23)), (14, .pv (.int .i64 r35))] [.hrow 74 3 (List.map GEnv.pv r7) (Int.toNat r12) 2 1 (List.length u20.vars_), .row 76 3 (List.map Var.pv u20.vars_) false] ?_ ?_
        · exact dk1 (an pf_9 f37)
        refine AW.seq ?_
        refine AW.reg hS [(2, .pv (.str name3)), (3, .pv (.slice (List.map PV.str values4))), (10, .vec 0 (List.length r7)), (11, .pv (.int .i64 r12)), (12, .pv (.int .i64 r23)), (14, .pv (.int .i64 r35)), (62, .pv (.bool (!decide (r35 = 0))))] [.hrow 74 3 (List.map GEnv.pv r7) (Int.toNat r12) 2 1 (List.length u20.vars_), .row 76 3 (List.map Var.pv u20.vars_) false] ?_ ?_
        · exact dk
        refine AW.cond (b := !decide (r35 = 0)) rfl (fun hb38 => ?_) (fun hb38 => ?_)
        · replace h := bif_t hb38 h
          refine AW.seq ?_
          refine AW.reg hS [(8, .vec 0 (List.length r7)), (9, .pv (.int .i64 r35))] [.hrow 74 3 (List.map GEnv.pv r7) (Int.toNat r12) 2 1 (List.length u20.vars_), .row 76 3 (List.map Var.pv u20.vars_) false] ?_ ?_
          · exact dk
          refine AW.weak (Weak.freeze 1 rfl) ?_
          refine AW.weak (σ' := ⟨sl [(8, .vec 0 (List.length r7)), (9, .pv (.int .i64 r35))], 98, [.hrow 74 3 (List.map GEnv.pv r7) (Int.toNat r12) 2 1 (List.length u20.vars_), .row 76 3 (List.map Var.pv u20.vars_) true]⟩) (Weak.slots ⟨rfl, rfl, trivial⟩) ?_
          refine AW.weak (Weak.close 0 (cs := [.int .i64 u20.id_, .int .i64 u20.next_, .slice (List.map Var.pv u20.vars_)]) (xs' := List.map GEnv.pv r7) rfl rfl (by simp only [List.length_map]) (by rw [List.getElem?_map, f22.2.1]; rfl) (set_self (by rw [List.getElem?_map, f22.2.1]; rfl))) ?_
          refine AW.weak (σ' := ⟨sl [(8, .vec 0 (List.length r7)), (9, .pv (.int .i64 r35))], 98, [.row 74 3 (List.map GEnv.pv r7) false, .row 76 3 (List.map Var.pv u20.vars_) true]⟩) (Weak.of_eq (Weak.slots (L := [(8, .vec 0 (List.length r7)), (9, .pv (.int .i64 r35))]) ⟨rfl, rfl, trivial⟩) (by first | rfl | (simp only [List.length_set, List.length_map]; rfl))) ?_
          refine AW.weak (Weak.freeze 0 rfl) ?_
          refine AW.weak (σ' := ⟨sl [(8, .vec 0 (List.length r7)), (9, .pv (.int .i64 r35))], 98, [.row 74 3 (List.map GEnv.pv r7) true, .row 76 3 (List.map Var.pv u20.vars_) true]⟩) (Weak.slots ⟨rfl, rfl, trivial⟩) ?_
          refine AW.ret ?_
          cases h
          exact fin
        · replace h := bif_f hb38 h
          refine AW.skip ?_
          refine AW.seq ?_
          refine AW.seq ?_
          refine AW.reg hS [(2, .pv (.str name3)), (3, .pv (.slice (List.map PV.str values4))), (10, .vec 0 (List.length r7)), (11, .pv (.int .i64 r12)), (12, .pv (.int .i64 r23)), (66, .pv (.bool (decide (0 ≤ r23))))] [.hrow 74 3 (List.map GEnv.pv r7) (Int.toNat r12) 2 1 (List.length u20.vars_), .row 76 3 (List.map Var.pv u20.vars_) false] ?_ ?_
          · exact dk
          refine AW.cond (b := decide (0 ≤ r23)) rfl (fun hb39 => ?_) (fun hb39 => ?_)
          · replace h := bif_t hb39 h
            refine AW.seq ?_
            replace h := obs h; obtain ⟨l40, q41, h⟩ := h
            have f42 := c_L_Clone values4 l40 q41
            try dsimp only at f42
            replace h := obs h; obtain ⟨u43, q44, h⟩ := h
            have f45 := lidx_f q44
            refine AW.dregB mixed hS [(69, none), (70, none), (75, none), (76, none)] rfl (hpf ▸ (by kernel_rfl : orderOKB pfn [(69, none), (70, none), (75, none), (76, none)] _ = true)) [(10, .vec 0 (List.length r7))] [.hrow 74 3 (List.map GEnv.pv r7) (Int.toNat r12) 2 1 (List.length u20.vars_), .row 76 3 (List.map Var.pv (List.set u20.vars_ (Int.toNat r23) (Var.mk u43.id_ u43.name_ l40))) false] ?_ ?_
            · exact dk1 (an f22.1 (an f22.2.1 (an f22.2.2 (an pf_47 (an f42 (an f45.1 (an f45.2.1 f45.2.2)))))))
            refine AW.seq ?_
            refine AW.reg hS [(8, .vec 0 (List.length r7)), (9, .pv (.int .i64 0))] [.hrow 74 3 (List.map GEnv.pv r7) (Int.toNat r12) 2 1 (List.length u20.vars_), .row 76 3 (List.map Var.pv (List.set u20.vars_ (Int.toNat r23) (Var.mk u43.id_ u43.name_ l40))) false] ?_ ?_
            · exact dk
            refine AW.weak (Weak.freeze 1 rfl) ?_
            refine AW.weak (σ' := ⟨sl [(8, .vec 0 (List.length r7)), (9, .pv (.int .i64 0))], 98, [.hrow 74 3 (List.map GEnv.pv r7) (Int.toNat r12) 2 1 (List.length u20.vars_), .row 76 3 (List.map Var.pv (List.set u20.vars_ (Int.toNat r23) (Var.mk u43.id_ u43.name_ l40))) true]⟩) (Weak.slots ⟨rfl, rfl, trivial⟩) ?_
            refine AW.weak (Weak.close 0 (cs := [.int .i64 u20.id_, .int .i64 u20.next_, .slice (List.map Var.pv u20.vars_)]) (xs' := List.map GEnv.pv (List.set r7 (Int.toNat r12) (GEnv.mk u20.id_ u20.next_ (List.set u20.vars_ (Int.toNat r23) (Var.mk u43.id_ u43.name_ l40))))) rfl rfl (by simp only [List.length_map, List.length_set]) (by rw [List.getElem?_map, f22.2.1]; rfl) (by simp only [List.map_set, List.set_cons_succ, List.set_cons_zero, P22_eq, GOp.pv_eq, Var.pv_eq, P72_eq, GEnv.pv_eq])) ?_
            refine AW.weak (σ' := ⟨sl [(8, .vec 0 (List.length (List.set r7 (Int.toNat r12) (GEnv.mk u20.id_ u20.next_ (List.set u20.vars_ (Int.toNat r23) (Var.mk u43.id_ u43.name_ l40)))))), (9, .pv (.int .i64 0))], 98, [.row 74 3 (List.map GEnv.pv (List.set r7 (Int.toNat r12) (GEnv.mk u20.id_ u20.next_ (List.set u20.vars_ (Int.toNat r23) (Var.mk u43.id_ u43.name_ l40))))) false, .row 76 3 (List.map Var.pv (List.set u20.vars_ (Int.toNat r23) (Var.mk u43.id_ u43.name_ l40))) true]⟩) (Weak.of_eq (Weak.slots (L := [(8, .vec 0 (List.length r7)), (9, .pv (.int .i64 0))]) ⟨rfl, rfl, trivial⟩) (by first | rfl | (simp only [List.length_set, List.length_map]; rfl))) ?_
            refine AW.weak (Weak.freeze 0 rfl) ?_
            refine AW.weak (σ' := ⟨sl [(8, .vec 0 (List.length (List.set r7 (Int.toNat r12) (GEnv.mk u20.id_ u20.next_ (List.set u20.vars_ (Int.toNat r23) (Var.mk u43.id_ u43.name_ l40)))))), (9, .pv (.int .i64 0))], 98, [.row 74 3 (List.map GEnv.pv (List.set r7 (Int.toNat r12) (GEnv.mk u20.id_ u20.next_ (List.set u20.vars_ (Int.toNat r23) (Var.mk u43.id_ u43.name_ l40))))) true, .row 76 3 (List.map Var.pv (List.set u20.vars_ (Int.toNat r23) (Var.mk u43.id_ u43.name_ l40))) true]⟩) (Weak.slots ⟨rfl, rfl, trivial⟩) ?_
            refine AW.ret ?_
            cases h
            exact fin
          · replace h := bif_f hb39 h
            refine AW.skip ?_
            refine AW.seq ?_
            refine AW.weak (Weak.freeze 1 rfl) ?_
            refine AW.weak (σ' := ⟨sl [(2, .pv (.str name3)), (3, .pv (.slice (List.map PV.str values4))), (10, .vec 0 (List.length r7)), (11, .pv (.int .i64 r12)), (12, .pv (.int .i64 r23)), (66, .pv (.bool (decide (0 ≤ r23))))], 98, [.hrow 74 3 (List.map GEnv.pv r7) (Int.toNat r12) 2 1 (List.length u20.vars_), .row 76 3 (List.map Var.pv u20.vars_) true]⟩) (Weak.slots ⟨rfl, rfl, rfl, rfl, rfl, rfl, trivial⟩) ?_
            refine AW.weak (Weak.close 0 (cs := [.int .i64 u20.id_, .int .i64 u20.next_, .slice (List.map Var.pv u20.vars_)]) (xs' := List.map GEnv.pv r7) rfl rfl (by simp only [List.length_map]) (by rw [List.getElem?_map, f22.2.1]; rfl) (set_self (by rw [List.getElem?_map, f22.2.1]; rfl))) ?_
            refine AW.weak (σ' := ⟨sl [(2, .pv (.str name3)), (3, .pv (.slice (List.map PV.str values4))), (10, .vec 0 (List.length r7)), (11, .pv (.int .i64 r12)), (12, .pv (.int .i64 r23)), (66, .pv (.bool (decide (0 ≤ r23))))], 98, [.row 74 3 (List.map GEnv.pv r7) false, .row 76 3 (List.map Var.pv u20.vars_) true]⟩) (Weak.of_eq (Weak.slots (L := [(2, .pv (.str name3)), (3, .pv (.slice (List.map PV.str values4))), (10, .vec 0 (List.length r7)), (11, .pv (.int .i64 r12)), (12, .pv (.int .i64 r23)), (66, .pv (.bool (decide (0 ≤ r23))))]) ⟨rfl, rfl, rfl, rfl, rfl, rfl, trivial⟩) (by first | rfl | (simp only [List.length_set, List.length_map]; rfl))) ?_
            replace h := obs h; obtain ⟨l46, q47, h⟩ := h
            have f48 := c_L_Clone values4 l46 q47
            try dsimp only at f48
            replace h := obs h; obtain ⟨⟨r49, r50⟩, q51, h⟩ := h
            dsimp only at h
            have f52 := c_F48 u20 name3 l46 r49 r50 q51
            try dsimp only at f52
            refine AW.dregB mixed hS [(81, none)] rfl (hpf ▸ (by kernel_rfl : orderOKB pfn [(81, none)] _ = true)) [(10, .vec 0 (List.length r7)), (11, .pv (.int .i64 r12)), (15, .ref 2 0), (16, .pv (.int .i64 r50))] [.row 74 3 (List.map GEnv.pv r7) false, .row 76 3 (List.map Var.pv u20.vars_) true, .var [.pv (.int .i64 r49.id_), .pv (.int .i64 r49.next_), .pv (.slice (List.map Var.pv r49.vars_))]] ?_ ?_
            · exact dk1 (an f22.1 (an f22.2.1 (an f22.2.2 (an pf_47 (an f48 (an pf_48 f52))))))
            refine AW.seq ?_
            refine AW.seq ?_
            refine AW.reg hS [(10, .vec 0 (List.length r7)), (11, .pv (.int .i64 r12)), (15, .ref 2 0), (16, .pv (.int .i64 r50)), (90, .pv (.bool (!decide (r50 = 0))))] [.row 74 3 (List.map GEnv.pv r7) false, .row 76 3 (List.map Var.pv u20.vars_) true, .var [.pv (.int .i64 r49.id_), .pv (.int .i64 r49.next_), .pv (.slice (List.map Var.pv r49.vars_))]] ?_ ?_
            · exact dk
            refine AW.cond (b := !decide (r50 = 0)) rfl (fun hb53 => ?_) (fun hb53 => ?_)
            · replace h := bif_t hb53 h
              refine AW.seq ?_
              refine AW.reg hS [(8, .vec 0 (List.length r7)), (9, .pv (.int .i64 r50))] [.row 74 3 (List.map GEnv.pv r7) false, .row 76 3 (List.map Var.pv u20.vars_) true, .var [.pv (.int .i64 r49.id_), .pv (.int .i64 r49.next_), .pv (.slice (List.map Var.pv r49.vars_))]] ?_ ?_
              · exact dk
              refine AW.weak (Weak.freeze 0 rfl) ?_
              refine AW.weak (σ' := ⟨sl [(8, .vec 0 (List.length r7)), (9, .pv (.int .i64 r50))], 98, [.row 74 3 (List.map GEnv.pv r7) true, .row 76 3 (List.map Var.pv u20.vars_) true, .var [.pv (.int .i64 r49.id_), .pv (.int .i64 r49.next_), .pv (.slice (List.map Var.pv r49.vars_))]]⟩) (Weak.slots ⟨rfl, rfl, trivial⟩) ?_
              refine AW.ret ?_
              cases h
              exact fin
            · replace h := bif_f hb53 h
              refine AW.skip ?_
              refine AW.seq ?_
              refine AW.reg hS [(10, .vec 0 (List.length (List.set r7 (Int.toNat r12) r49)))] [.row 74 3 (List.map GEnv.pv (List.set r7 (Int.toNat r12) r49)) false, .row 76 3 (List.map Var.pv u20.vars_) true, .var [.pv (.int .i64 r49.id_), .pv (.int .i64 r49.next_), .pv (.slice (List.map Var.pv r49.vars_))]] ?_ ?_
              · exact dk1 (an f22.1 (an f22.2.1 f22.2.2))
              refine AW.seq ?_
              refine AW.reg hS [(8, .vec 0 (List.length (List.set r7 (Int.toNat r12) r49))), (9, .pv (.int .i64 0))] [.row 74 3 (List.map GEnv.pv (List.set r7 (Int.toNat r12) r49)) false, .row 76 3 (List.map Var.pv u20.vars_) true, .var [.pv (.int .i64 r49.id_), .pv (.int .i64 r49.next_), .pv (.slice (List.map Var.pv r49.vars_))]] ?_ ?_
              · exact dk
              refine AW.weak (Weak.freeze 0 rfl) ?_
              refine AW.weak (σ' := ⟨sl [(8, .vec 0 (List.length (List.set r7 (Int.toNat r12) r49))), (9, .pv (.int .i64 0))], 98, [.row 74 3 (List.map GEnv.pv (List.set r7 (Int.toNat r12) r49)) true, .row 76 3 (List.map Var.pv u20.vars_) true, .var [.pv (.int .i64 r49.id_), .pv (.int .i64 r49.next_), .pv (.slice (List.map Var.pv r49.vars_))]]⟩) (Weak.slots ⟨rfl, rfl, trivial⟩) ?_
              refine AW.ret ?_
              cases h
              exact fin

set_option maxHeartbeats 4000000 in
theorem g_F100 {O : Orc} (hS : Sound env O) (hpf : O.pf = pfn) (v1 : Var) (x2 : Int) (r3 : Bool) (h : F100 v1 x2 = some r3) : Good env 100 [.pv (.agg [.int .i64 v1.id_, .str v1.name_, .slice (List.map PV.str v1.values_)]), .ref 0 0] [.var [.pv (.int .i64 x2)]] [.pv (.bool r3)] [.var [.pv (.int .i64 x2)]] := by
  refine Good.start (fn := Tryd.f100) (N := 8) fn_100 rfl rfl (by simp) [] _ rfl rfl ?_
  rw [F100] at h
  refine AW.seq ?_
  refine AW.reg hS [(1, .ref 0 0), (2, .ref 1 0)] [.var [.pv (.int .i64 x2)], .var [.pv (.int .i64 v1.id_), .pv (.str v1.name_), .pv (.slice (List.map PV.str v1.values_))]] ?_ ?_
  · exact dk
  refine AW.seq ?_
  refine AW.reg hS [(3, .pv (.bool (decide (v1.id_ = x2))))] [.var [.pv (.int .i64 x2)], .var [.pv (.int .i64 v1.id_), .pv (.str v1.name_), .pv (.slice (List.map PV.str v1.values_))]] ?_ ?_
  · exact dk
  refine AW.ret ?_
  cases h
  exact fin

set_option maxHeartbeats 4000000 in
theorem g_F83x1 {O : Orc} (hS : Sound env O) (hpf : O.pf = pfn) (c_F100 : C_F100 O) (s1 : List Var) (x2 : Int) (r3 : Int) (h : F83x1 s1 x2 = some r3) : Good env 83 [.pv (.slice (List.map Var.pv s1)), .fn 100 [0]] [.var [.pv (.int .i64 x2)]] [.pv (.int .i64 r3)] [.var [.pv (.int .i64 x2)]] := by
  have pf_100 : O.pf 100 = false := by rw [hpf]; rfl
  refine Good.start (fn := Tryd.f83) (N := 19) fn_83 rfl rfl (by simp) [] _ rfl rfl ?_
  rw [F83x1] at h
  refine AW.seq ?_
  refine AW.reg hS [(0, .pv (.slice (List.map Var.pv s1))), (1, .fn 100 [0])] [.var [.pv (.int .i64 x2)]] ?_ ?_
  · exact dk
  refine AW.seq ?_
  refine AW.seq ?_
  refine AW.reg hS [(0, .pv (.slice (List.map Var.pv s1))), (1, .fn 100 [0]), (7, .pv (.int .i64 (s1.length : Int))), (8, .pv (.int .i64 0))] [.var [.pv (.int .i64 x2)]] ?_ ?_
  · exact dk
  refine AW.block ?_
  refine AW.weak (Weak.slots (L := [(0, .pv (.slice (List.map Var.pv s1))), (1, .fn 100 [0]), (7, .pv (.int .i64 (s1.length : Int))), (8, .pv (.int .i64 0))]) ⟨rfl, rfl, rfl, rfl, trivial⟩) ?_
  refine AW.loopI (α := Nat × Int) (fun (_, i4) => ⟨sl [(0, .pv (.slice (List.map Var.pv s1))), (1, .fn 100 [0]), (7, .pv (.int .i64 (s1.length : Int))), (8, .pv (.int .i64 i4))], 19, [.var [.pv (.int .i64 x2)]]⟩) (fun x => iter (F83x1_b1 s1 x2) x.1 x.2 = some r3) (fun x => x.1) (BIG, 0) h ?_
  clear h
  intro ⟨n17, i4⟩ h
  replace h := iter_some h; obtain ⟨m7, rfl, h⟩ := h
  rw [F83x1_b1] at h
  try dsimp only at h
  show AW _ _ _ _ ⟨sl [(0, .pv (.slice (List.map Var.pv s1))), (1, .fn 100 [0]), (7, .pv (.int .i64 (s1.length : Int))), (8, .pv (.int .i64 i4))], 19, [.var [.pv (.int .i64 x2)]]⟩
  refine AW.seq ?_
  refine AW.reg hS [(0, .pv (.slice (List.map Var.pv s1))), (1, .fn 100 [0]), (7, .pv (.int .i64 (s1.length : Int))), (8, .pv (.int .i64 i4)), (9, .pv (.bool (decide (i4 < (s1.length : Int)))))] [.var [.pv (.int .i64 x2)]] ?_ ?_
  · exact dk
  refine AW.seq ?_
  refine AW.cond (b := decide (i4 < (s1.length : Int))) rfl (fun hb8 => ?_) (fun hb8 => ?_)
  · replace h := bif_t hb8 h
    refine AW.skip ?_
    refine AW.seq ?_
    refine AW.block ?_
    refine AW.seq ?_
    refine AW.reg hS [(0, .pv (.slice (List.map Var.pv s1))), (1, .fn 100 [0]), (5, .pv (.int .i64 i4)), (7, .pv (.int .i64 (s1.length : Int))), (8, .pv (.int .i64 i4))] [.var [.pv (.int .i64 x2)]] ?_ ?_
    · exact dk
    refine AW.seq ?_
    replace h := obs h; obtain ⟨u9, q10, h⟩ := h
    have f11 := lidx_f q10
    replace h := obs h; obtain ⟨r12, q13, h⟩ := h
    have f14 := c_F100 u9 x2 r12 q13
    try dsimp only at f14
    have e15 : ecall O [.var [.pv (.int .i64 x2)]] 100 [.pv (.agg [.int .i64 u9.id_, .str u9.name_, .slice (List.map PV.str u9.values_)]), .ref 0 0] = some (retAV [.pv (.bool r12)], [.var [.pv (.int .i64 x2)]]) := ecall_eq rfl rfl rfl f14 rfl rfl rfl
    refine AW.reg hS [(0, .pv (.slice (List.map Var.pv s1))), (1, .fn 100 [0]), (5, .pv (.int .i64 i4)), (7, .pv (.int .i64 (s1.length : Int))), (8, .pv (.int .i64 i4)), (16, .pv (.bool r12))] [.var [.pv (.int .i64 x2)]] ?_ ?_
    · exact dk1 (an f11.1 (an f11.2.1 (an pf_100 e15)))
    refine AW.cond (b := r12) rfl (fun hb16 => ?_) (fun hb16 => ?_)
    · replace h := bif_t hb16 h
      refine AW.seq ?_
      refine AW.reg hS [(4, .pv (.int .i64 i4))] [.var [.pv (.int .i64 x2)]] ?_ ?_
      · exact dk
      refine AW.ret ?_
      cases h
      exact fin
    · replace h := bif_f hb16 h
      refine AW.skip ?_
      refine AW.reg hS [(0, .pv (.slice (List.map Var.pv s1))), (1, .fn 100 [0]), (7, .pv (.int .i64 (s1.length : Int))), (8, .pv (.int .i64 (IntKind.wrap .i64 (i4 + 1))))] [.var [.pv (.int .i64 x2)]] ?_ ?_
      · exact dk
      exact ⟨(m7, IntKind.wrap .i64 (i4 + 1)), h, (Weak.norm (m := 1) (Nat.le_of_ble_eq_true rfl) ⟨rfl, rfl, rfl, rfl, trivial⟩ rfl rfl rfl), Nat.lt_succ_self _⟩
  · replace h := bif_f hb8 h
    refine AW.exit ?_
    refine AW.seq ?_
    refine AW.reg hS [(4, .pv (.int .i64 (-1)))] [.var [.pv (.int .i64 x2)]] ?_ ?_
    · exact dk
    refine AW.ret ?_
    cases h
    exact fin

end Go.Abs.U29
