/- The layer 29 laws: the functions walked. -/
import Derived.Test.YtkiajanddmgmnaaGreatDoorD1
set_option linter.unusedVariables false
set_option linter.unusedSimpArgs false
set_option maxRecDepth 8000
namespace Go.Abs.U2Z
open Go.RowKit Go.Proofs

set_option maxHeartbeats 4000000 in
theorem g_F21 {O : Orc} (hS : Sound env O) (hpf : O.pf = pfn) (c_F48 : C_F48 O) (l1 : List GEnv) (r2 : Bool) (h : F21 l1 = some r2) : Good env 21 [.pv (.slice (List.map GEnv.pv l1))] [] [.pv (.bool r2)] [] := by
  have pf_48 : O.pf 48 = true := by rw [hpf]; rfl
  refine Good.start (fn := Tryz.f21) (N := 34) fn_21 rfl rfl (by simp) [] _ rfl rfl ?_
  rw [F21] at h
  refine AW.seq ?_
  refine AW.reg hS [(0, .pv (.slice (List.map GEnv.pv l1)))] [] ?_ ?_
  · exact dk
  refine AW.seq ?_
  refine AW.seq ?_
  refine AW.reg hS [(0, .pv (.slice (List.map GEnv.pv l1))), (7, .pv (.bool (decide (64 < (l1.length : Int)))))] [] ?_ ?_
  · exact dk
  refine AW.cond (b := decide (64 < (l1.length : Int))) rfl (fun hb3 => ?_) (fun hb3 => ?_)
  · replace h := bif_t hb3 h
    refine AW.seq ?_
    refine AW.reg hS [(2, .pv (.bool false))] [] ?_ ?_
    · exact dk
    refine AW.ret ?_
    cases h
    exact fin
  · replace h := bif_f hb3 h
    refine AW.skip ?_
    refine AW.seq ?_
    refine AW.seq ?_
    refine AW.reg hS [(0, .pv (.slice (List.map GEnv.pv l1))), (8, .pv (.slice (List.map GEnv.pv l1))), (9, .pv (.int .i64 (l1.length : Int))), (10, .pv (.int .i64 0))] [] ?_ ?_
    · exact dk
    refine AW.block ?_
    refine AW.weak (Weak.slots (L := [(0, .pv (.slice (List.map GEnv.pv l1))), (8, .pv (.slice (List.map GEnv.pv l1))), (9, .pv (.int .i64 (l1.length : Int))), (10, .pv (.int .i64 0))]) ⟨rfl, rfl, rfl, rfl, trivial⟩) ?_
    refine AW.loopI (α := Nat × Int) (fun (_, i4) => ⟨sl [(0, .pv (.slice (List.map GEnv.pv l1))), (8, .pv (.slice (List.map GEnv.pv l1))), (9, .pv (.int .i64 (l1.length : Int))), (10, .pv (.int .i64 i4))], 34, []⟩) (fun x => iter (F21_b1 l1) x.1 x.2 = some r2) (fun x => x.1) (BIG, 0) h ?_
    clear h
    intro ⟨n19, i4⟩ h
    replace h := iter_some h; obtain ⟨m7, rfl, h⟩ := h
    rw [F21_b1] at h
    try dsimp only at h
    show AW _ _ _ _ ⟨sl [(0, .pv (.slice (List.map GEnv.pv l1))), (8, .pv (.slice (List.map GEnv.pv l1))), (9, .pv (.int .i64 (l1.length : Int))), (10, .pv (.int .i64 i4))], 34, []⟩
    refine AW.seq ?_
    refine AW.reg hS [(0, .pv (.slice (List.map GEnv.pv l1))), (8, .pv (.slice (List.map GEnv.pv l1))), (9, .pv (.int .i64 (l1.length : Int))), (10, .pv (.int .i64 i4)), (11, .pv (.bool (decide (i4 < (l1.length : Int)))))] [] ?_ ?_
    · exact dk
    refine AW.seq ?_
    refine AW.cond (b := decide (i4 < (l1.length : Int))) rfl (fun hb8 => ?_) (fun hb8 => ?_)
    · replace h := bif_t hb8 h
      refine AW.skip ?_
      refine AW.seq ?_
      refine AW.block ?_
      refine AW.seq ?_
      replace h := obs h; obtain ⟨u9, q10, h⟩ := h
      have f11 := lidx_f q10
      refine AW.reg hS [(0, .pv (.slice (List.map GEnv.pv l1))), (3, .pv (.int .i64 i4)), (4, .ref 0 0), (8, .pv (.slice (List.map GEnv.pv l1))), (9, .pv (.int .i64 (l1.length : Int))), (10, .pv (.int .i64 i4))] [.var [.pv (.int .i64 u9.id_), .pv (.int .i64 u9.next_), .pv (.slice (List.map Var.pv u9.vars_))]] ?_ ?_
      · exact dk1 (an f11.1 f11.2.1)
      refine AW.seq ?_
      replace h := obs h; obtain ⟨u12, q13, h⟩ := h
      have f14 := lidx_g (guardO_t q13)
      replace h := obs h; obtain ⟨r15, q16, h⟩ := h
      have f17 := fun hg => c_F48 u9 r15 (guardO_t q16 hg)
      try dsimp only at f17
      refine AW.dreg mixed hS (hpf ▸ (by kernel_rfl : orderOK pfn _ = true)) [(0, .pv (.slice (List.map GEnv.pv l1))), (8, .pv (.slice (List.map GEnv.pv l1))), (9, .pv (.int .i64 (l1.length : Int))), (10, .pv (.int .i64 i4)), (32, .pv (.bool ((decide (0 < i4) && decide (u9.id_ ≤ u12.id_)) || !r15)))] [.var [.pv (.int .i64 u9.id_), .pv (.int .i64 u9.next_), .pv (.slice (List.map Var.pv u9.vars_))]] ?_ ?_
      · clear h
        exact dg1 (an f14.1 (an f14.2.1 (an pf_48 f17)))
      refine AW.cond (b := ((decide (0 < i4) && decide (u9.id_ ≤ u12.id_)) || !r15)) rfl (fun hb18 => ?_) (fun hb18 => ?_)
      · replace h := bif_t hb18 h
        refine AW.seq ?_
        refine AW.reg hS [(2, .pv (.bool false))] [.var [.pv (.int .i64 u9.id_), .pv (.int .i64 u9.next_), .pv (.slice (List.map Var.pv u9.vars_))]] ?_ ?_
        · exact dk
        refine AW.ret ?_
        cases h
        exact fin
      · replace h := bif_f hb18 h
        refine AW.skip ?_
        refine AW.reg hS [(0, .pv (.slice (List.map GEnv.pv l1))), (8, .pv (.slice (List.map GEnv.pv l1))), (9, .pv (.int .i64 (l1.length : Int))), (10, .pv (.int .i64 (IntKind.wrap .i64 (i4 + 1))))] [.var [.pv (.int .i64 u9.id_), .pv (.int .i64 u9.next_), .pv (.slice (List.map Var.pv u9.vars_))]] ?_ ?_
        · exact dk
        exact ⟨(m7, IntKind.wrap .i64 (i4 + 1)), h, (Weak.norm (m := 0) (Nat.le_of_ble_eq_true rfl) ⟨rfl, rfl, rfl, rfl, trivial⟩ rfl rfl rfl), Nat.lt_succ_self _⟩
    · replace h := bif_f hb8 h
      refine AW.exit ?_
      refine AW.seq ?_
      refine AW.reg hS [(2, .pv (.bool true))] [] ?_ ?_
      · exact dk
      refine AW.ret ?_
      cases h
      exact fin

set_option maxHeartbeats 4000000 in
theorem g_F7 {O : Orc} (hS : Sound env O) (hpf : O.pf = pfn) (c_F13 : C_F13 O) (c_F14 : C_F14 O) (c_F15 : C_F15 O) (c_F16 : C_F16 O) (c_F17 : C_F17 O) (c_F18 : C_F18 O) (c_F19 : C_F19 O) (c_F20 : C_F20 O) (c_F21 : C_F21 O)  (r1 : Bool) (h : F7 = some r1) : Good env 7 [] [] [.pv (.bool r1)] [] := by
  have pf_13 : O.pf 13 = true := by rw [hpf]; rfl
  have pf_14 : O.pf 14 = true := by rw [hpf]; rfl
  have pf_15 : O.pf 15 = true := by rw [hpf]; rfl
  have pf_16 : O.pf 16 = true := by rw [hpf]; rfl
  have pf_17 : O.pf 17 = true := by rw [hpf]; rfl
  have pf_18 : O.pf 18 = true := by rw [hpf]; rfl
  have pf_19 : O.pf 19 = true := by rw [hpf]; rfl
  have pf_20 : O.pf 20 = true := by rw [hpf]; rfl
  have pf_21 : O.pf 21 = true := by rw [hpf]; rfl
  refine Good.start (fn := Tryz.f7) (N := 150) fn_7 rfl rfl (by simp) [] _ rfl rfl ?_
  rw [F7] at h
  refine AW.seq ?_
  refine AW.reg hS [] [] ?_ ?_
  · exact dk
  refine AW.seq ?_
  replace h := obs h; obtain ⟨⟨r2, r3⟩, q4, h⟩ := h
  dsimp only at h
  have f5 := c_F13 [] 0 1 r2 r3 q4
  try dsimp only at f5
  try simp only [List.map_cons, List.map_nil, P23_eq, Var.pv_eq, P32_eq, GEnv.pv_eq, GOp.pv_eq] at f5
  refine AW.reg hS [(1, .pv (.slice (List.map GEnv.pv r2))), (2, .pv (.int .i64 r3))] [] ?_ ?_
  · exact dk1 (an pf_13 f5)
  refine AW.seq ?_
  replace h := obs h; obtain ⟨⟨r6, r7⟩, q8, h⟩ := h
  dsimp only at h
  have f9 := c_F14 r2 1 [120] [[49], [50]] r6 r7 q8
  try dsimp only at f9
  try simp only [List.map_cons, List.map_nil, P23_eq, Var.pv_eq, P32_eq, GEnv.pv_eq, GOp.pv_eq] at f9
  refine AW.reg hS [(1, .pv (.slice (List.map GEnv.pv r6))), (2, .pv (.int .i64 r3)), (3, .pv (.int .i64 r7))] [] ?_ ?_
  · exact dk1 (an pf_14 f9)
  refine AW.seq ?_
  replace h := obs h; obtain ⟨⟨r10, r11⟩, q12, h⟩ := h
  dsimp only at h
  have f13 := c_F14 r6 1 [97, 47, 98] [] r10 r11 q12
  try dsimp only at f13
  try simp only [List.map_cons, List.map_nil, P23_eq, Var.pv_eq, P32_eq, GEnv.pv_eq, GOp.pv_eq] at f13
  refine AW.reg hS [(1, .pv (.slice (List.map GEnv.pv r6))), (2, .pv (.int .i64 r3)), (3, .pv (.int .i64 r7)), (5, .pv (.int .i64 r11))] [] ?_ ?_
  · exact dk1 (an pf_14 f13)
  refine AW.seq ?_
  replace h := obs h; obtain ⟨⟨r14, r15⟩, q16, h⟩ := h
  dsimp only at h
  have f17 := c_F15 r6 1 2 1 9 r14 r15 q16
  try dsimp only at f17
  refine AW.reg hS [(1, .pv (.slice (List.map GEnv.pv r6))), (2, .pv (.int .i64 r3)), (3, .pv (.int .i64 r7)), (5, .pv (.int .i64 r11)), (6, .pv (.str r14)), (7, .pv (.int .i64 r15))] [] ?_ ?_
  · exact dk1 (an pf_15 f17)
  refine AW.seq ?_
  replace h := obs h; obtain ⟨⟨r18, r19, r20⟩, q21, h⟩ := h
  dsimp only at h
  have f22 := c_F16 r6 1 2 0 [121] r18 r19 r20 q21
  try dsimp only at f22
  try simp only [List.map_cons, List.map_nil, P23_eq, Var.pv_eq, P32_eq, GEnv.pv_eq, GOp.pv_eq] at f22
  refine AW.reg hS [(2, .pv (.int .i64 r3)), (3, .pv (.int .i64 r7)), (5, .pv (.int .i64 r11)), (6, .pv (.str r14)), (7, .pv (.int .i64 r15)), (8, .pv (.slice (List.map GEnv.pv r18))), (9, .pv (.int .i64 r19)), (10, .pv (.int .i64 r20))] [] ?_ ?_
  · exact dk1 (an pf_16 f22)
  refine AW.seq ?_
  replace h := obs h; obtain ⟨⟨r23, r24⟩, q25, h⟩ := h
  dsimp only at h
  have f26 := c_F17 r18 1 [120] r23 r24 q25
  try dsimp only at f26
  try simp only [List.map_cons, List.map_nil, P23_eq, Var.pv_eq, P32_eq, GEnv.pv_eq, GOp.pv_eq] at f26
  refine AW.reg hS [(2, .pv (.int .i64 r3)), (3, .pv (.int .i64 r7)), (5, .pv (.int .i64 r11)), (6, .pv (.str r14)), (7, .pv (.int .i64 r15)), (8, .pv (.slice (List.map GEnv.pv r18))), (9, .pv (.int .i64 r19)), (10, .pv (.int .i64 r20)), (11, .pv (.slice (List.map PV.str r23))), (12, .pv (.bool r24))] [] ?_ ?_
  · exact dk1 (an pf_17 f26)
  refine AW.seq ?_
  replace h := obs h; obtain ⟨⟨r27, r28⟩, q29, h⟩ := h
  dsimp only at h
  have f30 := c_F14 r18 1 [120] [] r27 r28 q29
  try dsimp only at f30
  try simp only [List.map_cons, List.map_nil, P23_eq, Var.pv_eq, P32_eq, GEnv.pv_eq, GOp.pv_eq] at f30
  refine AW.reg hS [(2, .pv (.int .i64 r3)), (3, .pv (.int .i64 r7)), (5, .pv (.int .i64 r11)), (6, .pv (.str r14)), (7, .pv (.int .i64 r15)), (8, .pv (.slice (List.map GEnv.pv r27))), (9, .pv (.int .i64 r19)), (10, .pv (.int .i64 r20)), (11, .pv (.slice (List.map PV.str r23))), (12, .pv (.bool r24)), (13, .pv (.int .i64 r28))] [] ?_ ?_
  · exact dk1 (an pf_14 f30)
  refine AW.seq ?_
  replace h := obs h; obtain ⟨⟨r31, r32⟩, q33, h⟩ := h
  dsimp only at h
  have f34 := c_F17 r27 1 [120] r31 r32 q33
  try dsimp only at f34
  try simp only [List.map_cons, List.map_nil, P23_eq, Var.pv_eq, P32_eq, GEnv.pv_eq, GOp.pv_eq] at f34
  refine AW.reg hS [(2, .pv (.int .i64 r3)), (3, .pv (.int .i64 r7)), (5, .pv (.int .i64 r11)), (6, .pv (.str r14)), (7, .pv (.int .i64 r15)), (8, .pv (.slice (List.map GEnv.pv r27))), (9, .pv (.int .i64 r19)), (10, .pv (.int .i64 r20)), (11, .pv (.slice (List.map PV.str r23))), (12, .pv (.bool r24)), (13, .pv (.int .i64 r28)), (15, .pv (.bool r32))] [] ?_ ?_
  · exact dk1 (an pf_17 f34)
  refine AW.seq ?_
  replace h := obs h; obtain ⟨⟨r35, r36⟩, q37, h⟩ := h
  dsimp only at h
  have f38 := c_F14 r27 1 [120] [[50]] r35 r36 q37
  try dsimp only at f38
  try simp only [List.map_cons, List.map_nil, P23_eq, Var.pv_eq, P32_eq, GEnv.pv_eq, GOp.pv_eq] at f38
  refine AW.reg hS [(2, .pv (.int .i64 r3)), (3, .pv (.int .i64 r7)), (5, .pv (.int .i64 r11)), (6, .pv (.str r14)), (7, .pv (.int .i64 r15)), (8, .pv (.slice (List.map GEnv.pv r35))), (9, .pv (.int .i64 r19)), (10, .pv (.int .i64 r20)), (11, .pv (.slice (List.map PV.str r23))), (12, .pv (.bool r24)), (13, .pv (.int .i64 r28)), (15, .pv (.bool r32)), (16, .pv (.int .i64 r36))] [] ?_ ?_
  · exact dk1 (an pf_14 f38)
  refine AW.seq ?_
  replace h := obs h; obtain ⟨⟨r39, r40⟩, q41, h⟩ := h
  dsimp only at h
  have f42 := c_F18 r35 1 1 [120] r39 r40 q41
  try dsimp only at f42
  try simp only [List.map_cons, List.map_nil, P23_eq, Var.pv_eq, P32_eq, GEnv.pv_eq, GOp.pv_eq] at f42
  refine AW.reg hS [(2, .pv (.int .i64 r3)), (3, .pv (.int .i64 r7)), (5, .pv (.int .i64 r11)), (6, .pv (.str r14)), (7, .pv (.int .i64 r15)), (8, .pv (.slice (List.map GEnv.pv r35))), (9, .pv (.int .i64 r19)), (10, .pv (.int .i64 r20)), (11, .pv (.slice (List.map PV.str r23))), (12, .pv (.bool r24)), (13, .pv (.int .i64 r28)), (15, .pv (.bool r32)), (16, .pv (.int .i64 r36)), (17, .pv (.int .i64 r39)), (18, .pv (.int .i64 r40))] [] ?_ ?_
  · exact dk1 (an pf_18 f42)
  refine AW.seq ?_
  replace h := obs h; obtain ⟨⟨r43, r44⟩, q45, h⟩ := h
  dsimp only at h
  have f46 := c_F19 [] r43 r44 q45
  try dsimp only at f46
  refine AW.reg hS [(2, .pv (.int .i64 r3)), (3, .pv (.int .i64 r7)), (5, .pv (.int .i64 r11)), (6, .pv (.str r14)), (7, .pv (.int .i64 r15)), (8, .pv (.slice (List.map GEnv.pv r35))), (9, .pv (.int .i64 r19)), (10, .pv (.int .i64 r20)), (11, .pv (.slice (List.map PV.str r23))), (12, .pv (.bool r24)), (13, .pv (.int .i64 r28)), (15, .pv (.bool r32)), (16, .pv (.int .i64 r36)), (17, .pv (.int .i64 r39)), (18, .pv (.int .i64 r40)), (19, .pv (.slice (List.map PV.str r43))), (20, .pv (.int .i64 r44))] [] ?_ ?_
  · exact dk1 (an pf_19 f46)
  refine AW.seq ?_
  replace h := obs h; obtain ⟨r47, q48, h⟩ := h
  have f49 := fun hg => c_F20 r23 [[121], [50]] r47 (guardO_t q48 hg)
  try dsimp only at f49
  try simp only [List.map_cons, List.map_nil, P23_eq, Var.pv_eq, P32_eq, GEnv.pv_eq, GOp.pv_eq] at f49
  replace h := obs h; obtain ⟨w50, q51, h⟩ := h
  have f52 := lidx_g (guardO_t q51)
  replace h := obs h; obtain ⟨r53, q54, h⟩ := h
  have f55 := fun hg => c_F21 r35 r53 (guardO_t q54 hg)
  try dsimp only at f55
  refine AW.reg hS [(0, .pv (.bool (((((((((((((((((decide (r3 = 0) && decide (r7 = 0)) && decide (r11 = 6)) && decide (r14 = [0, 50])) && decide (r15 = 0)) && decide (r19 = 1)) && decide (r20 = 0)) && r24) && r47) && decide (r28 = 0)) && !r32) && decide (r36 = 0)) && decide (r39 = 3)) && decide (r40 = 0)) && decide ((r43.length : Int) = 1)) && decide (w50 = [])) && decide (r44 = 0)) && r53)))] [] ?_ ?_
  · clear h
    exact dg1 (an pf_20 (an f49 (an f52.1 (an f52.2.1 (an pf_21 f55)))))
  refine AW.ret ?_
  cases h
  exact fin

set_option maxHeartbeats 4000000 in
theorem g_F49 {O : Orc} (hS : Sound env O) (hpf : O.pf = pfn) (l1 : List GEnv) (group2 : Int) (r3 : Int) (h : F49 l1 group2 = some r3) : Good env 49 [.pv (.slice (List.map GEnv.pv l1)), .pv (.int .i64 group2)] [] [.pv (.int .i64 r3)] [] := by
  refine Good.start (fn := Tryz.f49) (N := 20) fn_49 rfl rfl (by simp) [] _ rfl rfl ?_
  rw [F49] at h
  refine AW.seq ?_
  refine AW.reg hS [(0, .pv (.slice (List.map GEnv.pv l1))), (1, .pv (.int .i64 group2))] [] ?_ ?_
  · exact dk
  refine AW.seq ?_
  refine AW.seq ?_
  refine AW.reg hS [(0, .pv (.slice (List.map GEnv.pv l1))), (1, .pv (.int .i64 group2)), (5, .pv (.int .i64 0))] [] ?_ ?_
  · exact dk
  refine AW.block ?_
  refine AW.weak (Weak.slots (L := [(0, .pv (.slice (List.map GEnv.pv l1))), (1, .pv (.int .i64 group2)), (5, .pv (.int .i64 0))]) ⟨rfl, rfl, rfl, trivial⟩) ?_
  refine AW.loopI (α := Nat × Int) (fun (_, i4) => ⟨sl [(0, .pv (.slice (List.map GEnv.pv l1))), (1, .pv (.int .i64 group2)), (5, .pv (.int .i64 i4))], 20, []⟩) (fun x => iter (F49_b1 l1 group2) x.1 x.2 = some r3) (fun x => x.1) (BIG, 0) h ?_
  clear h
  intro ⟨n13, i4⟩ h
  replace h := iter_some h; obtain ⟨m7, rfl, h⟩ := h
  rw [F49_b1] at h
  try dsimp only at h
  show AW _ _ _ _ ⟨sl [(0, .pv (.slice (List.map GEnv.pv l1))), (1, .pv (.int .i64 group2)), (5, .pv (.int .i64 i4))], 20, []⟩
  refine AW.seq ?_
  refine AW.seq ?_
  refine AW.reg hS [(0, .pv (.slice (List.map GEnv.pv l1))), (1, .pv (.int .i64 group2)), (5, .pv (.int .i64 i4)), (9, .pv (.bool (decide (i4 < (l1.length : Int)))))] [] ?_ ?_
  · exact dk
  refine AW.cond (b := decide (i4 < (l1.length : Int))) rfl (fun hb8 => ?_) (fun hb8 => ?_)
  · replace h := bif_t hb8 h
    refine AW.skip ?_
    refine AW.seq ?_
    refine AW.block ?_
    refine AW.seq ?_
    replace h := obs h; obtain ⟨u9, q10, h⟩ := h
    have f11 := lidx_f q10
    refine AW.reg hS [(0, .pv (.slice (List.map GEnv.pv l1))), (1, .pv (.int .i64 group2)), (5, .pv (.int .i64 i4)), (18, .pv (.bool (decide (u9.id_ = group2))))] [] ?_ ?_
    · exact dk1 (an f11.1 f11.2.1)
    refine AW.cond (b := decide (u9.id_ = group2)) rfl (fun hb12 => ?_) (fun hb12 => ?_)
    · replace h := bif_t hb12 h
      refine AW.seq ?_
      refine AW.reg hS [(4, .pv (.int .i64 i4))] [] ?_ ?_
      · exact dk
      refine AW.ret ?_
      cases h
      exact fin
    · replace h := bif_f hb12 h
      refine AW.skip ?_
      refine AW.reg hS [(0, .pv (.slice (List.map GEnv.pv l1))), (1, .pv (.int .i64 group2)), (5, .pv (.int .i64 (IntKind.wrap .i64 (i4 + 1))))] [] ?_ ?_
      · exact dk
      exact ⟨(m7, IntKind.wrap .i64 (i4 + 1)), h, (Weak.norm (m := 0) (Nat.le_of_ble_eq_true rfl) ⟨rfl, rfl, rfl, trivial⟩ rfl rfl rfl), Nat.lt_succ_self _⟩
  · replace h := bif_f hb8 h
    refine AW.exit ?_
    refine AW.seq ?_
    refine AW.reg hS [(4, .pv (.int .i64 (-1)))] [] ?_ ?_
    · exact dk
    refine AW.ret ?_
    cases h
    exact fin

set_option maxHeartbeats 4000000 in
theorem g_F51 {O : Orc} (hS : Sound env O) (hpf : O.pf = pfn) (g1 : GEnv) (k2 : Int) (r3 : GEnv) (h : F51 g1 k2 = some r3) : Good env 51 [.pv (.agg [.int .i64 g1.id_, .int .i64 g1.next_, .slice (List.map Var.pv g1.vars_)]), .pv (.int .i64 k2)] [] [.pv (.agg [.int .i64 r3.id_, .int .i64 r3.next_, .slice (List.map Var.pv r3.vars_)])] [] := by
  refine Good.start (fn := Tryz.f51) (N := 33) fn_51 rfl rfl (by simp) [] _ rfl rfl ?_
  rw [F51] at h
  refine AW.seq ?_
  refine AW.reg hS [(1, .pv (.int .i64 k2)), (2, .ref 0 0), (4, .ref 1 0)] [.var [.pv (.int .i64 g1.id_), .pv (.int .i64 g1.next_), .pv (.slice (List.map Var.pv g1.vars_))], .var [.pv (.int .i64 0), .pv (.int .i64 0), .nils]] ?_ ?_
  · exact dk
  refine AW.seq ?_
  refine AW.after ?_
  refine AW.reg hS [(1, .pv (.int .i64 k2)), (2, .ref 0 0), (4, .ref 1 0), (5, .ref 2 0)] [.var [.pv (.int .i64 g1.id_), .pv (.int .i64 g1.next_), .pv (.slice (List.map Var.pv g1.vars_))], .var [.pv (.int .i64 0), .pv (.int .i64 0), .nils], .var [.pv (.int .i64 g1.id_), .pv (.int .i64 g1.next_), .nils]] ?_ ?_
  · exact dk
  refine ⟨⟨sl [(1, .pv (.int .i64 k2)), (2, .ref 0 0), (4, .ref 1 0), (5, .ref 2 0)], 33, [.var [.pv (.int .i64 g1.id_), .pv (.int .i64 g1.next_), .pv (.slice (List.map Var.pv g1.vars_))], .var [.pv (.int .i64 0), .pv (.int .i64 0), .nils], .var [.pv (.int .i64 g1.id_), .pv (.int .i64 g1.next_), .vec 3 (List.length ([] : List Var))], .row 37 3 (List.map Var.pv ([] : List Var)) true]⟩, (Weak.trans (Weak.ownC (σ := ⟨sl [(1, .pv (.int .i64 k2)), (2, .ref 0 0), (4, .ref 1 0), (5, .ref 2 0)], 33, [.var [.pv (.int .i64 g1.id_), .pv (.int .i64 g1.next_), .pv (.slice (List.map Var.pv g1.vars_))], .var [.pv (.int .i64 0), .pv (.int .i64 0), .nils], .var [.pv (.int .i64 g1.id_), .pv (.int .i64 g1.next_), .nils]]⟩) 2 2 37 3 (by decide) (cs := [.pv (.int .i64 g1.id_), .pv (.int .i64 g1.next_), .nils]) rfl rfl) (Weak.slots (L := [(1, .pv (.int .i64 k2)), (2, .ref 0 0), (4, .ref 1 0), (5, .ref 2 0)]) ⟨rfl, rfl, rfl, rfl, trivial⟩)), ?_⟩
  refine AW.seq ?_
  refine AW.seq ?_
  refine AW.reg hS [(1, .pv (.int .i64 k2)), (2, .ref 0 0), (4, .ref 1 0), (5, .ref 2 0), (6, .pv (.int .i64 0))] [.var [.pv (.int .i64 g1.id_), .pv (.int .i64 g1.next_), .pv (.slice (List.map Var.pv g1.vars_))], .var [.pv (.int .i64 0), .pv (.int .i64 0), .nils], .var [.pv (.int .i64 g1.id_), .pv (.int .i64 g1.next_), .vec 3 (List.length ([] : List Var))], .row 37 3 (List.map Var.pv ([] : List Var)) true] ?_ ?_
  · exact dk
  refine AW.block ?_
  refine AW.weak (Weak.slots (L := [(1, .pv (.int .i64 k2)), (2, .ref 0 0), (4, .ref 1 0), (5, .ref 2 0), (6, .pv (.int .i64 0))]) ⟨rfl, rfl, rfl, rfl, rfl, trivial⟩) ?_
  refine AW.loopI (α := Nat × Int × (List Var)) (fun (_, i4, l5) => ⟨sl [(1, .pv (.int .i64 k2)), (2, .ref 0 0), (4, .ref 1 0), (5, .ref 2 0), (6, .pv (.int .i64 i4))], 33, [.var [.pv (.int .i64 g1.id_), .pv (.int .i64 g1.next_), .pv (.slice (List.map Var.pv g1.vars_))], .var [.pv (.int .i64 0), .pv (.int .i64 0), .nils], .var [.pv (.int .i64 g1.id_), .pv (.int .i64 g1.next_), .vec 3 (List.length l5)], .row 37 3 (List.map Var.pv l5) true]⟩) (fun x => iter (F51_b1 g1 k2) x.1 x.2 = some r3) (fun x => x.1) (BIG, (0, ([] : List Var))) h ?_
  clear h
  intro ⟨n17, i4, l5⟩ h
  replace h := iter_some h; obtain ⟨m8, rfl, h⟩ := h
  rw [F51_b1] at h
  try dsimp only at h
  show AW _ _ _ _ ⟨sl [(1, .pv (.int .i64 k2)), (2, .ref 0 0), (4, .ref 1 0), (5, .ref 2 0), (6, .pv (.int .i64 i4))], 33, [.var [.pv (.int .i64 g1.id_), .pv (.int .i64 g1.next_), .pv (.slice (List.map Var.pv g1.vars_))], .var [.pv (.int .i64 0), .pv (.int .i64 0), .nils], .var [.pv (.int .i64 g1.id_), .pv (.int .i64 g1.next_), .vec 3 (List.length l5)], .row 37 3 (List.map Var.pv l5) true]⟩
  refine AW.seq ?_
  refine AW.seq ?_
  refine AW.reg hS [(1, .pv (.int .i64 k2)), (2, .ref 0 0), (4, .ref 1 0), (5, .ref 2 0), (6, .pv (.int .i64 i4)), (16, .pv (.bool (decide (i4 < (g1.vars_.length : Int)))))] [.var [.pv (.int .i64 g1.id_), .pv (.int .i64 g1.next_), .pv (.slice (List.map Var.pv g1.vars_))], .var [.pv (.int .i64 0), .pv (.int .i64 0), .nils], .var [.pv (.int .i64 g1.id_), .pv (.int .i64 g1.next_), .vec 3 (List.length l5)], .row 37 3 (List.map Var.pv l5) true] ?_ ?_
  · exact dk
  refine AW.cond (b := decide (i4 < (g1.vars_.length : Int))) rfl (fun hb9 => ?_) (fun hb9 => ?_)
  · replace h := bif_t hb9 h
    refine AW.skip ?_
    refine AW.seq ?_
    refine AW.block ?_
    refine AW.seq ?_
    refine AW.reg hS [(1, .pv (.int .i64 k2)), (2, .ref 0 0), (4, .ref 1 0), (5, .ref 2 0), (6, .pv (.int .i64 i4)), (21, .pv (.bool (!decide (i4 = k2))))] [.var [.pv (.int .i64 g1.id_), .pv (.int .i64 g1.next_), .pv (.slice (List.map Var.pv g1.vars_))], .var [.pv (.int .i64 0), .pv (.int .i64 0), .nils], .var [.pv (.int .i64 g1.id_), .pv (.int .i64 g1.next_), .vec 3 (List.length l5)], .row 37 3 (List.map Var.pv l5) true] ?_ ?_
    · exact dk
    refine AW.cond (b := !decide (i4 = k2)) rfl (fun hb10 => ?_) (fun hb10 => ?_)
    · replace h := bif_t hb10 h
      replace h := obs h; obtain ⟨u11, q12, h⟩ := h
      have f13 := lidx_f q12
      replace h := obs h; obtain ⟨out14, q15, h⟩ := h
      have f16 := appO_f q15
      try simp only [List.length_cons, List.length_nil, List.length_replicate, Nat.zero_add, Nat.reduceAdd, Nat.reduceLeDiff, Nat.add_zero, Nat.reduceMul] at f16
      refine AW.dregB mixed hS [(2, some 0), (5, some 2), (22, some 2), (24, some 0), (27, none), (31, some 2)] rfl (hpf ▸ (by kernel_rfl : orderOKB pfn [(2, some 0), (5, some 2), (22, some 2), (24, some 0), (27, none), (31, some 2)] _ = true)) [(1, .pv (.int .i64 k2)), (2, .ref 0 0), (4, .ref 1 0), (5, .ref 2 0), (6, .pv (.int .i64 i4))] [.var [.pv (.int .i64 g1.id_), .pv (.int .i64 g1.next_), .pv (.slice (List.map Var.pv g1.vars_))], .var [.pv (.int .i64 0), .pv (.int .i64 0), .nils], .var [.pv (.int .i64 g1.id_), .pv (.int .i64 g1.next_), .vec 3 (List.length out14)], .row 37 3 (List.map Var.pv out14) true] ?_ ?_
      · exact dk1 (an f13.1 (an f13.2.1 (an f16.1 f16.2)))
      clear f16
      refine AW.reg hS [(1, .pv (.int .i64 k2)), (2, .ref 0 0), (4, .ref 1 0), (5, .ref 2 0), (6, .pv (.int .i64 (IntKind.wrap .i64 (i4 + 1))))] [.var [.pv (.int .i64 g1.id_), .pv (.int .i64 g1.next_), .pv (.slice (List.map Var.pv g1.vars_))], .var [.pv (.int .i64 0), .pv (.int .i64 0), .nils], .var [.pv (.int .i64 g1.id_), .pv (.int .i64 g1.next_), .vec 3 (List.length out14)], .row 37 3 (List.map Var.pv out14) true] ?_ ?_
      · exact dk
      exact ⟨(m8, (IntKind.wrap .i64 (i4 + 1), out14)), h, (Weak.norm (m := 4) (Nat.le_of_ble_eq_true rfl) ⟨rfl, rfl, rfl, rfl, rfl, trivial⟩ rfl rfl rfl), Nat.lt_succ_self _⟩
    · replace h := bif_f hb10 h
      refine AW.skip ?_
      refine AW.reg hS [(1, .pv (.int .i64 k2)), (2, .ref 0 0), (4, .ref 1 0), (5, .ref 2 0), (6, .pv (.int .i64 (IntKind.wrap .i64 (i4 + 1))))] [.var [.pv (.int .i64 g1.id_), .pv (.int .i64 g1.next_), .pv (.slice (List.map Var.pv g1.vars_))], .var [.pv (.int .i64 0), .pv (.int .i64 0), .nils], .var [.pv (.int .i64 g1.id_), .pv (.int .i64 g1.next_), .vec 3 (List.length l5)], .row 37 3 (List.map Var.pv l5) true] ?_ ?_
      · exact dk
      exact ⟨(m8, (IntKind.wrap .i64 (i4 + 1), l5)), h, (Weak.norm (m := 4) (Nat.le_of_ble_eq_true rfl) ⟨rfl, rfl, rfl, rfl, rfl, trivial⟩ rfl rfl rfl), Nat.lt_succ_self _⟩
  · replace h := bif_f hb9 h
    refine AW.exit ?_
    refine AW.seq ?_
    refine AW.weak (Weak.cellPV 2 2 (cs := [.pv (.int .i64 g1.id_), .pv (.int .i64 g1.next_), .vec 3 (List.length l5)]) (a := .vec 3 (List.length l5)) (p := .slice (List.map Var.pv l5)) rfl rfl (by first | rfl | simp only [toPV, List.getElem?_cons_zero, List.getElem?_cons_succ, List.length_map, if_true, List.map_nil])) ?_
    refine AW.weak (σ' := ⟨sl [(1, .pv (.int .i64 k2)), (2, .ref 0 0), (4, .ref 1 0), (5, .ref 2 0), (6, .pv (.int .i64 i4)), (16, .pv (.bool (decide (i4 < (g1.vars_.length : Int)))))], 33, [.var [.pv (.int .i64 g1.id_), .pv (.int .i64 g1.next_), .pv (.slice (List.map Var.pv g1.vars_))], .var [.pv (.int .i64 0), .pv (.int .i64 0), .nils], .var [.pv (.int .i64 g1.id_), .pv (.int .i64 g1.next_), .pv (.slice (List.map Var.pv l5))], .row 37 3 (List.map Var.pv l5) true]⟩) (Weak.of_eq (Weak.slots (L := [(1, .pv (.int .i64 k2)), (2, .ref 0 0), (4, .ref 1 0), (5, .ref 2 0), (6, .pv (.int .i64 i4)), (16, .pv (.bool (decide (i4 < (g1.vars_.length : Int)))))]) ⟨rfl, rfl, rfl, rfl, rfl, rfl, trivial⟩) (by first | rfl | (simp only [List.length_set, List.length_map]; rfl))) ?_
    refine AW.reg hS [(4, .ref 1 0)] [.var [.pv (.int .i64 g1.id_), .pv (.int .i64 g1.next_), .pv (.slice (List.map Var.pv g1.vars_))], .var [.pv (.int .i64 g1.id_), .pv (.int .i64 g1.next_), .pv (.slice (List.map Var.pv l5))], .var [.pv (.int .i64 g1.id_), .pv (.int .i64 g1.next_), .pv (.slice (List.map Var.pv l5))], .row 37 3 (List.map Var.pv l5) true] ?_ ?_
    · exact dk
    refine AW.ret ?_
    cases h
    exact fin

set_option maxHeartbeats 4000000 in
theorem g_F50 {O : Orc} (hS : Sound env O) (hpf : O.pf = pfn) (l1 : List GEnv) (i2 : Int) (g3 : GEnv) (r4 : List GEnv) (h : F50 l1 i2 g3 = some r4) : Good env 50 [.pv (.slice (List.map GEnv.pv l1)), .pv (.int .i64 i2), .pv (.agg [.int .i64 g3.id_, .int .i64 g3.next_, .slice (List.map Var.pv g3.vars_)])] [] [.pv (.slice (List.map GEnv.pv r4))] [] := by
  refine Good.start (fn := Tryz.f50) (N := 16) fn_50 rfl rfl (by simp) [] _ rfl rfl ?_
  rw [F50] at h
  refine AW.seq ?_
  refine AW.reg hS [(0, .pv (.slice (List.map GEnv.pv l1))), (1, .pv (.int .i64 i2)), (5, .ref 0 0)] [.var [.pv (.int .i64 g3.id_), .pv (.int .i64 g3.next_), .pv (.slice (List.map Var.pv g3.vars_))]] ?_ ?_
  · exact dk
  refine AW.seq ?_
  replace h := obs h; obtain ⟨out5, q6, h⟩ := h
  have f7 := appO_f q6
  try simp only [List.length_cons, List.length_nil, List.length_replicate, Nat.zero_add, Nat.reduceAdd, Nat.reduceLeDiff, Nat.add_zero, Nat.reduceMul] at f7
  refine AW.reg hS [(1, .pv (.int .i64 i2)), (5, .ref 0 0), (7, .vec 1 (List.length out5))] [.var [.pv (.int .i64 g3.id_), .pv (.int .i64 g3.next_), .pv (.slice (List.map Var.pv g3.vars_))], .row 34 3 (List.map GEnv.pv out5) false] ?_ ?_
  · exact dk1 (an f7.1 f7.2)
  clear f7
  refine AW.seq ?_
  replace h := obs h; obtain ⟨u8, q9, h⟩ := h
  have f10 := lidx_f q9
  refine AW.reg hS [(7, .vec 1 (List.length (List.set out5 (Int.toNat i2) g3)))] [.var [.pv (.int .i64 g3.id_), .pv (.int .i64 g3.next_), .pv (.slice (List.map Var.pv g3.vars_))], .row 34 3 (List.map GEnv.pv (List.set out5 (Int.toNat i2) g3)) false] ?_ ?_
  · exact dk1 (an f10.1 (an f10.2.1 f10.2.2))
  refine AW.seq ?_
  refine AW.reg hS [(6, .vec 1 (List.length (List.set out5 (Int.toNat i2) g3)))] [.var [.pv (.int .i64 g3.id_), .pv (.int .i64 g3.next_), .pv (.slice (List.map Var.pv g3.vars_))], .row 34 3 (List.map GEnv.pv (List.set out5 (Int.toNat i2) g3)) false] ?_ ?_
  · exact dk
  refine AW.weak (Weak.freeze 1 rfl) ?_
  refine AW.weak (σ' := ⟨sl [(6, .vec 1 (List.length (List.set out5 (Int.toNat i2) g3)))], 16, [.var [.pv (.int .i64 g3.id_), .pv (.int .i64 g3.next_), .pv (.slice (List.map Var.pv g3.vars_))], .row 34 3 (List.map GEnv.pv (List.set out5 (Int.toNat i2) g3)) true]⟩) (Weak.slots ⟨rfl, trivial⟩) ?_
  refine AW.ret ?_
  cases h
  exact fin

set_option maxHeartbeats 4000000 in
theorem g_F81 {O : Orc} (hS : Sound env O) (hpf : O.pf = pfn) (l1 : List Str) (r2 : List Str) (h : F81 l1 = some r2) : Good env 81 [.pv (.slice (List.map PV.str l1))] [] [.pv (.slice (List.map PV.str r2))] [] := by
  refine Good.start (fn := Tryz.f81) (N := 6) fn_81 rfl rfl (by simp) [] _ rfl rfl ?_
  rw [F81] at h
  refine AW.seq ?_
  refine AW.reg hS [(0, .pv (.slice (List.map PV.str l1)))] [] ?_ ?_
  · exact dk
  refine AW.seq ?_
  replace h := obs h; obtain ⟨out3, q4, h⟩ := h
  have f5 := appO_f q4
  try simp only [List.length_cons, List.length_nil, List.length_replicate, Nat.zero_add, Nat.reduceAdd, Nat.reduceLeDiff, Nat.add_zero, Nat.reduceMul] at f5
  refine AW.reg hS [(2, .vec 0 (List.length out3))] [.row 9 1 (List.map PV.str out3) false] ?_ ?_
  · exact dk1 (an f5.1 f5.2)
  clear f5
  refine AW.weak (Weak.freeze 0 rfl) ?_
  refine AW.weak (σ' := ⟨sl [(2, .vec 0 (List.length out3))], 6, [.row 9 1 (List.map PV.str out3) true]⟩) (Weak.slots ⟨rfl, trivial⟩) ?_
  refine AW.ret ?_
  cases h
  exact fin

set_option maxHeartbeats 4000000 in
theorem g_F52 {O : Orc} (hS : Sound env O) (hpf : O.pf = pfn) (c_F81 : C_F81 O) (g1 : GEnv) (k2 : Int) (values3 : List Str) (r4 : GEnv) (h : F52 g1 k2 values3 = some r4) : Good env 52 [.pv (.agg [.int .i64 g1.id_, .int .i64 g1.next_, .slice (List.map Var.pv g1.vars_)]), .pv (.int .i64 k2), .pv (.slice (List.map PV.str values3))] [] [.pv (.agg [.int .i64 r4.id_, .int .i64 r4.next_, .slice (List.map Var.pv r4.vars_)])] [] := by
  have pf_81 : O.pf 81 = true := by rw [hpf]; rfl
  refine Good.start (fn := Tryz.f52) (N := 25) fn_52 rfl rfl (by simp) [] _ rfl rfl ?_
  rw [F52] at h
  refine AW.seq ?_
  refine AW.reg hS [(1, .pv (.int .i64 k2)), (2, .pv (.slice (List.map PV.str values3))), (3, .ref 0 0), (6, .ref 1 0)] [.var [.pv (.int .i64 g1.id_), .pv (.int .i64 g1.next_), .pv (.slice (List.map Var.pv g1.vars_))], .var [.pv (.int .i64 0), .pv (.int .i64 0), .nils]] ?_ ?_
  · exact dk
  refine AW.seq ?_
  refine AW.weak (Weak.hold 7) ?_
  refine AW.weak (σ' := ⟨sl [(1, .pv (.int .i64 k2)), (2, .pv (.slice (List.map PV.str values3))), (3, .ref 0 0), (6, .ref 1 0)], 25, [.var [.pv (.int .i64 g1.id_), .pv (.int .i64 g1.next_), .pv (.slice (List.map Var.pv g1.vars_))], .var [.pv (.int .i64 0), .pv (.int .i64 0), .nils], .hold 7]⟩) (Weak.of_eq (Weak.slots (L := [(1, .pv (.int .i64 k2)), (2, .pv (.slice (List.map PV.str values3))), (3, .ref 0 0), (6, .ref 1 0)]) ⟨rfl, rfl, rfl, rfl, trivial⟩) (by first | rfl | (simp only [List.length_set, List.length_map]; rfl))) ?_
  replace h := obs h; obtain ⟨out5, q6, h⟩ := h
  have f7 := appO_f q6
  try simp only [List.length_cons, List.length_nil, List.length_replicate, Nat.zero_add, Nat.reduceAdd, Nat.reduceLeDiff, Nat.add_zero, Nat.reduceMul] at f7
  refine AW.dregW mixed hS [4, 7, 9, 10] [[], [4], [9], [4, 7], [4, 9], [4, 7, 9], [4, 7, 9, 10]] 6 [(0, 0, 0), (0, 1, 1), (0, 2, 2), (0, 3, 3), (0, 4, 4), (0, 5, 5), (1, 0, 0), (1, 1, 1), (1, 2, 2), (1, 3, 3), (1, 4, 4), (1, 5, 5), (2, 0, 0), (2, 1, 1), (2, 2, 2), (2, 3, 3), (2, 4, 4), (2, 5, 5), (3, 0, 0), (3, 1, 1), (3, 2, 2), (3, 3, 3), (3, 4, 4), (3, 5, 5), (4, 0, 1), (4, 2, 4), (5, 0, 0), (5, 1, 1), (5, 2, 2), (5, 4, 4), (6, 0, 0), (6, 1, 1), (6, 2, 2), (6, 4, 4), (7, 1, 3), (7, 4, 5), (8, 3, 3), (8, 5, 5), (9, 0, 2), (9, 1, 4), (9, 3, 5), (10, 5, 6)] [.ref 0 0, .pv (.int .i64 g1.id_), .ref 0 1, .pv (.int .i64 g1.next_), .vec 3 (List.length ([] : List Var)), .ref 0 2, .pv (.slice (List.map Var.pv g1.vars_)), .vec 3 (List.length out5), .agg [.pv (.int .i64 g1.id_), .pv (.int .i64 g1.next_), .vec 3 (List.length out5)], .ref 2 0, .any] [[.var [.pv (.int .i64 g1.id_), .pv (.int .i64 g1.next_), .pv (.slice (List.map Var.pv g1.vars_))], .var [.pv (.int .i64 0), .pv (.int .i64 0), .nils], .hold 7], [.var [.pv (.int .i64 g1.id_), .pv (.int .i64 g1.next_), .pv (.slice (List.map Var.pv g1.vars_))], .var [.pv (.int .i64 0), .pv (.int .i64 0), .nils], .hold 7, .row 37 3 (List.map Var.pv ([] : List Var)) false], [.var [.pv (.int .i64 g1.id_), .pv (.int .i64 g1.next_), .pv (.slice (List.map Var.pv g1.vars_))], .var [.pv (.int .i64 0), .pv (.int .i64 0), .nils], .var [.pv (.int .i64 0), .pv (.int .i64 0), .nils]], [.var [.pv (.int .i64 g1.id_), .pv (.int .i64 g1.next_), .pv (.slice (List.map Var.pv g1.vars_))], .var [.pv (.int .i64 0), .pv (.int .i64 0), .nils], .hold 7, .row 37 3 (List.map Var.pv out5) false], [.var [.pv (.int .i64 g1.id_), .pv (.int .i64 g1.next_), .pv (.slice (List.map Var.pv g1.vars_))], .var [.pv (.int .i64 0), .pv (.int .i64 0), .nils], .var [.pv (.int .i64 0), .pv (.int .i64 0), .nils], .row 37 3 (List.map Var.pv ([] : List Var)) false], [.var [.pv (.int .i64 g1.id_), .pv (.int .i64 g1.next_), .pv (.slice (List.map Var.pv g1.vars_))], .var [.pv (.int .i64 0), .pv (.int .i64 0), .nils], .var [.pv (.int .i64 0), .pv (.int .i64 0), .nils], .row 37 3 (List.map Var.pv out5) false], [.var [.pv (.int .i64 g1.id_), .pv (.int .i64 g1.next_), .pv (.slice (List.map Var.pv g1.vars_))], .var [.pv (.int .i64 0), .pv (.int .i64 0), .nils], .var [.pv (.int .i64 g1.id_), .pv (.int .i64 g1.next_), .vec 3 (List.length out5)], .row 37 3 (List.map Var.pv out5) false]] [(8, .ref 0 0), (9, .pv (.int .i64 g1.id_)), (10, .ref 0 1), (11, .pv (.int .i64 g1.next_)), (12, .vec 3 (List.length ([] : List Var))), (13, .ref 0 2), (14, .pv (.slice (List.map Var.pv g1.vars_))), (15, .vec 3 (List.length out5)), (16, .agg [.pv (.int .i64 g1.id_), .pv (.int .i64 g1.next_), .vec 3 (List.length out5)]), (7, .ref 2 0), (1, .pv (.int .i64 k2)), (2, .pv (.slice (List.map PV.str values3))), (3, .ref 0 0), (6, .ref 1 0)] (by kernel_rfl) (by kernel_rfl) (by kernel_rfl) ?_ [(1, .pv (.int .i64 k2)), (2, .pv (.slice (List.map PV.str values3))), (6, .ref 1 0), (7, .ref 2 0)] [.var [.pv (.int .i64 g1.id_), .pv (.int .i64 g1.next_), .pv (.slice (List.map Var.pv g1.vars_))], .var [.pv (.int .i64 0), .pv (.int .i64 0), .nils], .var [.pv (.int .i64 g1.id_), .pv (.int .i64 g1.next_), .vec 3 (List.length out5)], .row 37 3 (List.map Var.pv out5) false] ⟨rfl, rfl, rfl, rfl, trivial⟩ rfl ?_
  · repeat' (first | exact Facts2.nil | refine Facts2.fill rfl rfl rfl rfl rfl (by rw [env_bT]; decide) T_34 rfl rfl rfl rfl ?_ | refine Facts2.does rfl rfl rfl ?_ ?_)
    all_goals exact dv1 (an f7.1 f7.2)
  clear f7
  refine AW.seq ?_
  replace h := obs h; obtain ⟨r8, q9, h⟩ := h
  have f10 := c_F81 values3 r8 q9
  try dsimp only at f10
  replace h := obs h; obtain ⟨u11, q12, h⟩ := h
  have f13 := lidx_f q12
  refine AW.dregB mixed hS [(7, some 2), (17, some 2), (22, none), (23, none)] rfl (hpf ▸ (by kernel_rfl : orderOKB pfn [(7, some 2), (17, some 2), (22, none), (23, none)] _ = true)) [(6, .ref 1 0), (7, .ref 2 0)] [.var [.pv (.int .i64 g1.id_), .pv (.int .i64 g1.next_), .pv (.slice (List.map Var.pv g1.vars_))], .var [.pv (.int .i64 0), .pv (.int .i64 0), .nils], .var [.pv (.int .i64 g1.id_), .pv (.int .i64 g1.next_), .vec 3 (List.length (List.set out5 (Int.toNat k2) (Var.mk u11.id_ u11.name_ r8)))], .row 37 3 (List.map Var.pv (List.set out5 (Int.toNat k2) (Var.mk u11.id_ u11.name_ r8))) false] ?_ ?_
  · exact dk1 (an pf_81 (an f10 (an f13.1 (an f13.2.1 f13.2.2))))
  refine AW.seq ?_
  refine AW.weak (Weak.freeze 3 rfl) ?_
  refine AW.weak (σ' := ⟨sl [(6, .ref 1 0), (7, .ref 2 0)], 25, [.var [.pv (.int .i64 g1.id_), .pv (.int .i64 g1.next_), .pv (.slice (List.map Var.pv g1.vars_))], .var [.pv (.int .i64 0), .pv (.int .i64 0), .nils], .var [.pv (.int .i64 g1.id_), .pv (.int .i64 g1.next_), .vec 3 (List.length (List.set out5 (Int.toNat k2) (Var.mk u11.id_ u11.name_ r8)))], .row 37 3 (List.map Var.pv (List.set out5 (Int.toNat k2) (Var.mk u11.id_ u11.name_ r8))) true]⟩) (Weak.slots ⟨rfl, rfl, trivial⟩) ?_
  refine AW.weak (Weak.cellPV 2 2 (cs := [.pv (.int .i64 g1.id_), .pv (.int .i64 g1.next_), .vec 3 (List.length (List.set out5 (Int.toNat k2) (Var.mk u11.id_ u11.name_ r8)))]) (a := .vec 3 (List.length (List.set out5 (Int.toNat k2) (Var.mk u11.id_ u11.name_ r8)))) (p := .slice (List.map Var.pv (List.set out5 (Int.toNat k2) (Var.mk u11.id_ u11.name_ r8)))) rfl rfl (by first | rfl | simp only [toPV, List.getElem?_cons_zero, List.getElem?_cons_succ, List.length_map, if_true, List.map_nil])) ?_
  refine AW.weak (σ' := ⟨sl [(6, .ref 1 0), (7, .ref 2 0)], 25, [.var [.pv (.int .i64 g1.id_), .pv (.int .i64 g1.next_), .pv (.slice (List.map Var.pv g1.vars_))], .var [.pv (.int .i64 0), .pv (.int .i64 0), .nils], .var [.pv (.int .i64 g1.id_), .pv (.int .i64 g1.next_), .pv (.slice (List.map Var.pv (List.set out5 (Int.toNat k2) (Var.mk u11.id_ u11.name_ r8))))], .row 37 3 (List.map Var.pv (List.set out5 (Int.toNat k2) (Var.mk u11.id_ u11.name_ r8))) true]⟩) (Weak.of_eq (Weak.slots (L := [(6, .ref 1 0), (7, .ref 2 0)]) ⟨rfl, rfl, trivial⟩) (by first | rfl | (simp only [List.length_set, List.length_map]; rfl))) ?_
  refine AW.reg hS [(6, .ref 1 0)] [.var [.pv (.int .i64 g1.id_), .pv (.int .i64 g1.next_), .pv (.slice (List.map Var.pv g1.vars_))], .var [.pv (.int .i64 g1.id_), .pv (.int .i64 g1.next_), .pv (.slice (List.map Var.pv (List.set out5 (Int.toNat k2) (Var.mk u11.id_ u11.name_ r8))))], .var [.pv (.int .i64 g1.id_), .pv (.int .i64 g1.next_), .pv (.slice (List.map Var.pv (List.set out5 (Int.toNat k2) (Var.mk u11.id_ u11.name_ r8))))], .row 37 3 (List.map Var.pv (List.set out5 (Int.toNat k2) (Var.mk u11.id_ u11.name_ r8))) true] ?_ ?_
  · exact dk
  refine AW.ret ?_
  cases h
  exact fin

set_option maxHeartbeats 4000000 in
theorem g_F53 {O : Orc} (hS : Sound env O) (hpf : O.pf = pfn) (c_F81 : C_F81 O) (g1 : GEnv) (name2 : Str) (values3 : List Str) (r4 : GEnv) (r5 : Int) (h : F53 g1 name2 values3 = some (r4, r5)) : Good env 53 [.pv (.agg [.int .i64 g1.id_, .int .i64 g1.next_, .slice (List.map Var.pv g1.vars_)]), .pv (.str name2), .pv (.slice (List.map PV.str values3))] [] [.pv (.agg [.int .i64 r4.id_, .int .i64 r4.next_, .slice (List.map Var.pv r4.vars_)]), .pv (.int .i64 r5)] [] := by
  have pf_81 : O.pf 81 = true := by rw [hpf]; rfl
  refine Good.start (fn := Tryz.f53) (N := 41) fn_53 rfl rfl (by simp) [] _ rfl rfl ?_
  rw [F53] at h
  refine AW.seq ?_
  refine AW.reg hS [(1, .pv (.str name2)), (2, .pv (.slice (List.map PV.str values3))), (3, .ref 0 0), (6, .ref 1 0)] [.var [.pv (.int .i64 g1.id_), .pv (.int .i64 g1.next_), .pv (.slice (List.map Var.pv g1.vars_))], .var [.pv (.int .i64 0), .pv (.int .i64 0), .nils]] ?_ ?_
  · exact dk
  refine AW.seq ?_
  refine AW.seq ?_
  refine AW.reg hS [(1, .pv (.str name2)), (2, .pv (.slice (List.map PV.str values3))), (3, .ref 0 0), (6, .ref 1 0), (17, .pv (.bool (decide (64 ≤ (g1.vars_.length : Int)) || decide (1048575 < g1.next_))))] [.var [.pv (.int .i64 g1.id_), .pv (.int .i64 g1.next_), .pv (.slice (List.map Var.pv g1.vars_))], .var [.pv (.int .i64 0), .pv (.int .i64 0), .nils]] ?_ ?_
  · clear h
    exact dg
  refine AW.cond (b := (decide (64 ≤ (g1.vars_.length : Int)) || decide (1048575 < g1.next_))) rfl (fun hb6 => ?_) (fun hb6 => ?_)
  · replace h := bif_t hb6 h
    refine AW.seq ?_
    refine AW.reg hS [(6, .ref 1 0), (7, .pv (.int .i64 22))] [.var [.pv (.int .i64 g1.id_), .pv (.int .i64 g1.next_), .pv (.slice (List.map Var.pv g1.vars_))], .var [.pv (.int .i64 g1.id_), .pv (.int .i64 g1.next_), .pv (.slice (List.map Var.pv g1.vars_))]] ?_ ?_
    · exact dk
    refine AW.ret ?_
    cases h
    exact fin
  · replace h := bif_f hb6 h
    refine AW.skip ?_
    refine AW.seq ?_
    refine AW.weak (Weak.hold 8) ?_
    refine AW.weak (σ' := ⟨sl [(1, .pv (.str name2)), (2, .pv (.slice (List.map PV.str values3))), (3, .ref 0 0), (6, .ref 1 0), (17, .pv (.bool (decide (64 ≤ (g1.vars_.length : Int)) || decide (1048575 < g1.next_))))], 41, [.var [.pv (.int .i64 g1.id_), .pv (.int .i64 g1.next_), .pv (.slice (List.map Var.pv g1.vars_))], .var [.pv (.int .i64 0), .pv (.int .i64 0), .nils], .hold 8]⟩) (Weak.of_eq (Weak.slots (L := [(1, .pv (.str name2)), (2, .pv (.slice (List.map PV.str values3))), (3, .ref 0 0), (6, .ref 1 0), (17, .pv (.bool (decide (64 ≤ (g1.vars_.length : Int)) || decide (1048575 < g1.next_))))]) ⟨rfl, rfl, rfl, rfl, rfl, trivial⟩) (by first | rfl | (simp only [List.length_set, List.length_map]; rfl))) ?_
    replace h := obs h; obtain ⟨out7, q8, h⟩ := h
    have f9 := appO_f q8
    try simp only [List.length_cons, List.length_nil, List.length_replicate, Nat.zero_add, Nat.reduceAdd, Nat.reduceLeDiff, Nat.add_zero, Nat.reduceMul] at f9
    refine AW.dregW mixed hS [5, 8, 10, 11] [[], [5], [10], [5, 8], [5, 10], [5, 8, 10], [5, 8, 10, 11]] 6 [(0, 0, 0), (0, 1, 1), (0, 2, 2), (0, 3, 3), (0, 4, 4), (0, 5, 5), (1, 0, 0), (1, 1, 1), (1, 2, 2), (1, 3, 3), (1, 4, 4), (1, 5, 5), (2, 0, 0), (2, 1, 1), (2, 2, 2), (2, 3, 3), (2, 4, 4), (2, 5, 5), (3, 0, 0), (3, 1, 1), (3, 2, 2), (3, 3, 3), (3, 4, 4), (3, 5, 5), (4, 0, 0), (4, 1, 1), (4, 2, 2), (4, 3, 3), (4, 4, 4), (4, 5, 5), (5, 0, 1), (5, 2, 4), (6, 0, 0), (6, 1, 1), (6, 2, 2), (6, 4, 4), (7, 0, 0), (7, 1, 1), (7, 2, 2), (7, 4, 4), (8, 1, 3), (8, 4, 5), (9, 3, 3), (9, 5, 5), (10, 0, 2), (10, 1, 4), (10, 3, 5), (11, 5, 6)] [.ref 0 0, .pv (.int .i64 g1.id_), .ref 0 1, .pv (.int .i64 g1.next_), .pv (.int .i64 (IntKind.wrap .i64 (g1.next_ + 1))), .vec 3 (List.length ([] : List Var)), .ref 0 2, .pv (.slice (List.map Var.pv g1.vars_)), .vec 3 (List.length out7), .agg [.pv (.int .i64 g1.id_), .pv (.int .i64 (IntKind.wrap .i64 (g1.next_ + 1))), .vec 3 (List.length out7)], .ref 2 0, .any] [[.var [.pv (.int .i64 g1.id_), .pv (.int .i64 g1.next_), .pv (.slice (List.map Var.pv g1.vars_))], .var [.pv (.int .i64 0), .pv (.int .i64 0), .nils], .hold 8], [.var [.pv (.int .i64 g1.id_), .pv (.int .i64 g1.next_), .pv (.slice (List.map Var.pv g1.vars_))], .var [.pv (.int .i64 0), .pv (.int .i64 0), .nils], .hold 8, .row 37 3 (List.map Var.pv ([] : List Var)) false], [.var [.pv (.int .i64 g1.id_), .pv (.int .i64 g1.next_), .pv (.slice (List.map Var.pv g1.vars_))], .var [.pv (.int .i64 0), .pv (.int .i64 0), .nils], .var [.pv (.int .i64 0), .pv (.int .i64 0), .nils]], [.var [.pv (.int .i64 g1.id_), .pv (.int .i64 g1.next_), .pv (.slice (List.map Var.pv g1.vars_))], .var [.pv (.int .i64 0), .pv (.int .i64 0), .nils], .hold 8, .row 37 3 (List.map Var.pv out7) false], [.var [.pv (.int .i64 g1.id_), .pv (.int .i64 g1.next_), .pv (.slice (List.map Var.pv g1.vars_))], .var [.pv (.int .i64 0), .pv (.int .i64 0), .nils], .var [.pv (.int .i64 0), .pv (.int .i64 0), .nils], .row 37 3 (List.map Var.pv ([] : List Var)) false], [.var [.pv (.int .i64 g1.id_), .pv (.int .i64 g1.next_), .pv (.slice (List.map Var.pv g1.vars_))], .var [.pv (.int .i64 0), .pv (.int .i64 0), .nils], .var [.pv (.int .i64 0), .pv (.int .i64 0), .nils], .row 37 3 (List.map Var.pv out7) false], [.var [.pv (.int .i64 g1.id_), .pv (.int .i64 g1.next_), .pv (.slice (List.map Var.pv g1.vars_))], .var [.pv (.int .i64 0), .pv (.int .i64 0), .nils], .var [.pv (.int .i64 g1.id_), .pv (.int .i64 (IntKind.wrap .i64 (g1.next_ + 1))), .vec 3 (List.length out7)], .row 37 3 (List.map Var.pv out7) false]] [(19, .ref 0 0), (20, .pv (.int .i64 g1.id_)), (21, .ref 0 1), (22, .pv (.int .i64 g1.next_)), (23, .pv (.int .i64 (IntKind.wrap .i64 (g1.next_ + 1)))), (24, .vec 3 (List.length ([] : List Var))), (25, .ref 0 2), (26, .pv (.slice (List.map Var.pv g1.vars_))), (27, .vec 3 (List.length out7)), (28, .agg [.pv (.int .i64 g1.id_), .pv (.int .i64 (IntKind.wrap .i64 (g1.next_ + 1))), .vec 3 (List.length out7)]), (8, .ref 2 0), (1, .pv (.str name2)), (2, .pv (.slice (List.map PV.str values3))), (3, .ref 0 0), (6, .ref 1 0), (17, .pv (.bool (decide (64 ≤ (g1.vars_.length : Int)) || decide (1048575 < g1.next_))))] (by kernel_rfl) (by kernel_rfl) (by kernel_rfl) ?_ [(1, .pv (.str name2)), (2, .pv (.slice (List.map PV.str values3))), (3, .ref 0 0), (6, .ref 1 0), (8, .ref 2 0)] [.var [.pv (.int .i64 g1.id_), .pv (.int .i64 g1.next_), .pv (.slice (List.map Var.pv g1.vars_))], .var [.pv (.int .i64 0), .pv (.int .i64 0), .nils], .var [.pv (.int .i64 g1.id_), .pv (.int .i64 (IntKind.wrap .i64 (g1.next_ + 1))), .vec 3 (List.length out7)], .row 37 3 (List.map Var.pv out7) false] ⟨rfl, rfl, rfl, rfl, rfl, trivial⟩ rfl ?_
    · repeat' (first | exact Facts2.nil | refine Facts2.fill rfl rfl rfl rfl rfl (by rw [env_bT]; decide) T_34 rfl rfl rfl rfl ?_ | refine Facts2.does rfl rfl rfl ?_ ?_)
      all_goals exact dv1 (an f9.1 f9.2)
    clear f9
    refine AW.seq ?_
    replace h := obs h; obtain ⟨r10, q11, h⟩ := h
    have f12 := c_F81 values3 r10 q11
    try dsimp only at f12
    replace h := obs h; obtain ⟨out13, q14, h⟩ := h
    have f15 := appO_f q14
    try simp only [List.length_cons, List.length_nil, List.length_replicate, Nat.zero_add, Nat.reduceAdd, Nat.reduceLeDiff, Nat.add_zero, Nat.reduceMul] at f15
    refine AW.dregB mixed hS [(3, some 0), (8, some 2), (29, some 2), (31, some 0), (39, some 2)] rfl (hpf ▸ (by kernel_rfl : orderOKB pfn [(3, some 0), (8, some 2), (29, some 2), (31, some 0), (39, some 2)] _ = true)) [(6, .ref 1 0), (8, .ref 2 0)] [.var [.pv (.int .i64 g1.id_), .pv (.int .i64 g1.next_), .pv (.slice (List.map Var.pv g1.vars_))], .var [.pv (.int .i64 0), .pv (.int .i64 0), .nils], .var [.pv (.int .i64 g1.id_), .pv (.int .i64 (IntKind.wrap .i64 (g1.next_ + 1))), .vec 3 (List.length out13)], .row 37 3 (List.map Var.pv out13) false] ?_ ?_
    · exact dk1 (an pf_81 (an f12 (an f15.1 f15.2)))
    clear f15
    refine AW.seq ?_
    refine AW.weak (Weak.freeze 3 rfl) ?_
    refine AW.weak (σ' := ⟨sl [(6, .ref 1 0), (8, .ref 2 0)], 41, [.var [.pv (.int .i64 g1.id_), .pv (.int .i64 g1.next_), .pv (.slice (List.map Var.pv g1.vars_))], .var [.pv (.int .i64 0), .pv (.int .i64 0), .nils], .var [.pv (.int .i64 g1.id_), .pv (.int .i64 (IntKind.wrap .i64 (g1.next_ + 1))), .vec 3 (List.length out13)], .row 37 3 (List.map Var.pv out13) true]⟩) (Weak.slots ⟨rfl, rfl, trivial⟩) ?_
    refine AW.weak (Weak.cellPV 2 2 (cs := [.pv (.int .i64 g1.id_), .pv (.int .i64 (IntKind.wrap .i64 (g1.next_ + 1))), .vec 3 (List.length out13)]) (a := .vec 3 (List.length out13)) (p := .slice (List.map Var.pv out13)) rfl rfl (by first | rfl | simp only [toPV, List.getElem?_cons_zero, List.getElem?_cons_succ, List.length_map, if_true, List.map_nil])) ?_
    refine AW.weak (σ' := ⟨sl [(6, .ref 1 0), (8, .ref 2 0)], 41, [.var [.pv (.int .i64 g1.id_), .pv (.int .i64 g1.next_), .pv (.slice (List.map Var.pv g1.vars_))], .var [.pv (.int .i64 0), .pv (.int .i64 0), .nils], .var [.pv (.int .i64 g1.id_), .pv (.int .i64 (IntKind.wrap .i64 (g1.next_ + 1))), .pv (.slice (List.map Var.pv out13))], .row 37 3 (List.map Var.pv out13) true]⟩) (Weak.of_eq (Weak.slots (L := [(6, .ref 1 0), (8, .ref 2 0)]) ⟨rfl, rfl, trivial⟩) (by first | rfl | (simp only [List.length_set, List.length_map]; rfl))) ?_
    refine AW.reg hS [(6, .ref 1 0), (7, .pv (.int .i64 0))] [.var [.pv (.int .i64 g1.id_), .pv (.int .i64 g1.next_), .pv (.slice (List.map Var.pv g1.vars_))], .var [.pv (.int .i64 g1.id_), .pv (.int .i64 (IntKind.wrap .i64 (g1.next_ + 1))), .pv (.slice (List.map Var.pv out13))], .var [.pv (.int .i64 g1.id_), .pv (.int .i64 (IntKind.wrap .i64 (g1.next_ + 1))), .pv (.slice (List.map Var.pv out13))], .row 37 3 (List.map Var.pv out13) true] ?_ ?_
    · exact dk
    refine AW.ret ?_
    cases h
    exact fin

set_option maxHeartbeats 4000000 in
theorem g_F22 {O : Orc} (hS : Sound env O) (hpf : O.pf = pfn) (c_F49 : C_F49 O) (c_F11 : C_F11 O) (c_F12 : C_F12 O) (c_F51 : C_F51 O) (c_F50 : C_F50 O) (c_F10 : C_F10 O) (c_F52 : C_F52 O) (c_F53 : C_F53 O) (l1 : List GEnv) (group2 : Int) (name3 : Str) (values4 : List Str) (r5 : List GEnv) (r6 : Int) (h : F22 l1 group2 name3 values4 = some (r5, r6)) : Good env 22 [.pv (.slice (List.map GEnv.pv l1)), .pv (.int .i64 group2), .pv (.str name3), .pv (.slice (List.map PV.str values4))] [] [.pv (.slice (List.map GEnv.pv r5)), .pv (.int .i64 r6)] [] := by
  have pf_10 : O.pf 10 = true := by rw [hpf]; rfl
  have pf_11 : O.pf 11 = true := by rw [hpf]; rfl
  have pf_12 : O.pf 12 = true := by rw [hpf]; rfl
  have pf_49 : O.pf 49 = true := by rw [hpf]; rfl
  have pf_50 : O.pf 50 = true := by rw [hpf]; rfl
  have pf_51 : O.pf 51 = true := by rw [hpf]; rfl
  have pf_52 : O.pf 52 = true := by rw [hpf]; rfl
  have pf_53 : O.pf 53 = true := by rw [hpf]; rfl
  refine Good.start (fn := Tryz.f22) (N := 83) fn_22 rfl rfl (by simp) [] _ rfl rfl ?_
  rw [F22] at h
  refine AW.seq ?_
  refine AW.reg hS [(0, .pv (.slice (List.map GEnv.pv l1))), (1, .pv (.int .i64 group2)), (2, .pv (.str name3)), (3, .pv (.slice (List.map PV.str values4)))] [] ?_ ?_
  · exact dk
  refine AW.seq ?_
  replace h := obs h; obtain ⟨r7, q8, h⟩ := h
  have f9 := c_F49 l1 group2 r7 q8
  try dsimp only at f9
  refine AW.reg hS [(0, .pv (.slice (List.map GEnv.pv l1))), (2, .pv (.str name3)), (3, .pv (.slice (List.map PV.str values4))), (10, .pv (.int .i64 r7))] [] ?_ ?_
  · exact dk1 (an pf_49 f9)
  refine AW.seq ?_
  refine AW.seq ?_
  refine AW.reg hS [(0, .pv (.slice (List.map GEnv.pv l1))), (2, .pv (.str name3)), (3, .pv (.slice (List.map PV.str values4))), (10, .pv (.int .i64 r7)), (20, .pv (.bool (decide (r7 < 0))))] [] ?_ ?_
  · exact dk
  refine AW.cond (b := decide (r7 < 0)) rfl (fun hb10 => ?_) (fun hb10 => ?_)
  · replace h := bif_t hb10 h
    refine AW.seq ?_
    refine AW.reg hS [(8, .pv (.slice (List.map GEnv.pv l1))), (9, .pv (.int .i64 1))] [] ?_ ?_
    · exact dk
    refine AW.ret ?_
    cases h
    exact fin
  · replace h := bif_f hb10 h
    refine AW.skip ?_
    refine AW.seq ?_
    refine AW.seq ?_
    replace h := obs h; obtain ⟨r11, q12, h⟩ := h
    have f13 := c_F11 name3 r11 q12
    try dsimp only at f13
    refine AW.reg hS [(0, .pv (.slice (List.map GEnv.pv l1))), (2, .pv (.str name3)), (3, .pv (.slice (List.map PV.str values4))), (10, .pv (.int .i64 r7)), (24, .pv (.bool (!r11)))] [] ?_ ?_
    · exact dk1 (an pf_11 f13)
    refine AW.cond (b := !r11) rfl (fun hb14 => ?_) (fun hb14 => ?_)
    · replace h := bif_t hb14 h
      refine AW.seq ?_
      refine AW.reg hS [(8, .pv (.slice (List.map GEnv.pv l1))), (9, .pv (.int .i64 6))] [] ?_ ?_
      · exact dk
      refine AW.ret ?_
      cases h
      exact fin
    · replace h := bif_f hb14 h
      refine AW.skip ?_
      refine AW.seq ?_
      replace h := obs h; obtain ⟨u15, q16, h⟩ := h
      have f17 := lidx_f q16
      replace h := obs h; obtain ⟨r18, q19, h⟩ := h
      have f20 := c_F12 u15 name3 r18 q19
      try dsimp only at f20
      refine AW.reg hS [(0, .pv (.slice (List.map GEnv.pv l1))), (2, .pv (.str name3)), (3, .pv (.slice (List.map PV.str values4))), (10, .pv (.int .i64 r7)), (11, .pv (.int .i64 r18))] [] ?_ ?_
      · exact dk1 (an f17.1 (an f17.2.1 (an pf_12 f20)))
      refine AW.seq ?_
      refine AW.seq ?_
      refine AW.reg hS [(0, .pv (.slice (List.map GEnv.pv l1))), (2, .pv (.str name3)), (3, .pv (.slice (List.map PV.str values4))), (10, .pv (.int .i64 r7)), (11, .pv (.int .i64 r18)), (34, .pv (.bool (decide ((values4.length : Int) = 0))))] [] ?_ ?_
      · exact dk
      refine AW.cond (b := decide ((values4.length : Int) = 0)) rfl (fun hb21 => ?_) (fun hb21 => ?_)
      · replace h := bif_t hb21 h
        refine AW.seq ?_
        replace h := obs h; obtain ⟨r22, q23, h⟩ := h
        have f24 := c_F51 u15 r18 r22 q23
        try dsimp only at f24
        replace h := obs h; obtain ⟨r25, q26, h⟩ := h
        have f27 := c_F50 l1 r7 r22 r25 q26
        try dsimp only at f27
        refine AW.reg hS [(8, .pv (.slice (List.map GEnv.pv r25))), (9, .pv (.int .i64 0))] [] ?_ ?_
        · exact dk1 (an f17.1 (an f17.2.1 (an pf_51 (an f24 (an pf_50 f27)))))
        refine AW.ret ?_
        cases h
        exact fin
      · replace h := bif_f hb21 h
        refine AW.skip ?_
        refine AW.seq ?_
        refine AW.seq ?_
        replace h := obs h; obtain ⟨⟨r28, r29⟩, q30, h⟩ := h
        dsimp only at h
        have f31 := c_F10 values4 r28 r29 q30
        try dsimp only at f31
        refine AW.reg hS [(0, .pv (.slice (List.map GEnv.pv l1))), (2, .pv (.str name3)), (3, .pv (.slice (List.map PV.str values4))), (10, .pv (.int .i64 r7)), (11, .pv (.int .i64 r18)), (13, .pv (.int .i64 r29))] [] ?_ ?_
        · exact dk1 (an pf_10 f31)
        refine AW.seq ?_
        refine AW.reg hS [(0, .pv (.slice (List.map GEnv.pv l1))), (2, .pv (.str name3)), (3, .pv (.slice (List.map PV.str values4))), (10, .pv (.int .i64 r7)), (11, .pv (.int .i64 r18)), (13, .pv (.int .i64 r29)), (50, .pv (.bool (!decide (r29 = 0))))] [] ?_ ?_
        · exact dk
        refine AW.cond (b := !decide (r29 = 0)) rfl (fun hb32 => ?_) (fun hb32 => ?_)
        · replace h := bif_t hb32 h
          refine AW.seq ?_
          refine AW.reg hS [(8, .pv (.slice (List.map GEnv.pv l1))), (9, .pv (.int .i64 r29))] [] ?_ ?_
          · exact dk
          refine AW.ret ?_
          cases h
          exact fin
        · replace h := bif_f hb32 h
          refine AW.skip ?_
          refine AW.seq ?_
          refine AW.seq ?_
          refine AW.reg hS [(0, .pv (.slice (List.map GEnv.pv l1))), (2, .pv (.str name3)), (3, .pv (.slice (List.map PV.str values4))), (10, .pv (.int .i64 r7)), (11, .pv (.int .i64 r18)), (54, .pv (.bool (decide (0 ≤ r18))))] [] ?_ ?_
          · exact dk
          refine AW.cond (b := decide (0 ≤ r18)) rfl (fun hb33 => ?_) (fun hb33 => ?_)
          · replace h := bif_t hb33 h
            refine AW.seq ?_
            replace h := obs h; obtain ⟨r34, q35, h⟩ := h
            have f36 := c_F52 u15 r18 values4 r34 q35
            try dsimp only at f36
            replace h := obs h; obtain ⟨r37, q38, h⟩ := h
            have f39 := c_F50 l1 r7 r34 r37 q38
            try dsimp only at f39
            refine AW.reg hS [(8, .pv (.slice (List.map GEnv.pv r37))), (9, .pv (.int .i64 0))] [] ?_ ?_
            · exact dk1 (an f17.1 (an f17.2.1 (an pf_52 (an f36 (an pf_50 f39)))))
            refine AW.ret ?_
            cases h
            exact fin
          · replace h := bif_f hb33 h
            refine AW.skip ?_
            refine AW.seq ?_
            replace h := obs h; obtain ⟨⟨r40, r41⟩, q42, h⟩ := h
            dsimp only at h
            have f43 := c_F53 u15 name3 values4 r40 r41 q42
            try dsimp only at f43
            refine AW.reg hS [(0, .pv (.slice (List.map GEnv.pv l1))), (10, .pv (.int .i64 r7)), (14, .ref 0 0), (15, .pv (.int .i64 r41))] [.var [.pv (.int .i64 r40.id_), .pv (.int .i64 r40.next_), .pv (.slice (List.map Var.pv r40.vars_))]] ?_ ?_
            · exact dk1 (an f17.1 (an f17.2.1 (an pf_53 f43)))
            refine AW.seq ?_
            refine AW.seq ?_
            refine AW.reg hS [(0, .pv (.slice (List.map GEnv.pv l1))), (10, .pv (.int .i64 r7)), (14, .ref 0 0), (15, .pv (.int .i64 r41)), (76, .pv (.bool (!decide (r41 = 0))))] [.var [.pv (.int .i64 r40.id_), .pv (.int .i64 r40.next_), .pv (.slice (List.map Var.pv r40.vars_))]] ?_ ?_
            · exact dk
            refine AW.cond (b := !decide (r41 = 0)) rfl (fun hb44 => ?_) (fun hb44 => ?_)
            · replace h := bif_t hb44 h
              refine AW.seq ?_
              refine AW.reg hS [(8, .pv (.slice (List.map GEnv.pv l1))), (9, .pv (.int .i64 r41))] [.var [.pv (.int .i64 r40.id_), .pv (.int .i64 r40.next_), .pv (.slice (List.map Var.pv r40.vars_))]] ?_ ?_
              · exact dk
              refine AW.ret ?_
              cases h
              exact fin
            · replace h := bif_f hb44 h
              refine AW.skip ?_
              refine AW.seq ?_
              replace h := obs h; obtain ⟨r45, q46, h⟩ := h
              have f47 := c_F50 l1 r7 r40 r45 q46
              try dsimp only at f47
              refine AW.reg hS [(8, .pv (.slice (List.map GEnv.pv r45))), (9, .pv (.int .i64 0))] [.var [.pv (.int .i64 r40.id_), .pv (.int .i64 r40.next_), .pv (.slice (List.map Var.pv r40.vars_))]] ?_ ?_
              · exact dk1 (an pf_50 f47)
              refine AW.ret ?_
              cases h
              exact fin

set_option maxHeartbeats 4000000 in
theorem g_F54 {O : Orc} (hS : Sound env O) (hpf : O.pf = pfn) (c_F20 : C_F20 O) (a1 : Var) (b2 : Var) (r3 : Bool) (h : F54 a1 b2 = some r3) : Good env 54 [.pv (.agg [.int .i64 a1.id_, .str a1.name_, .slice (List.map PV.str a1.values_)]), .pv (.agg [.int .i64 b2.id_, .str b2.name_, .slice (List.map PV.str b2.values_)])] [] [.pv (.bool r3)] [] := by
  have pf_20 : O.pf 20 = true := by rw [hpf]; rfl
  refine Good.start (fn := Tryz.f54) (N := 24) fn_54 rfl rfl (by simp) [] _ rfl rfl ?_
  rw [F54] at h
  refine AW.seq ?_
  refine AW.reg hS [(2, .ref 0 0), (3, .ref 1 0)] [.var [.pv (.int .i64 a1.id_), .pv (.str a1.name_), .pv (.slice (List.map PV.str a1.values_))], .var [.pv (.int .i64 b2.id_), .pv (.str b2.name_), .pv (.slice (List.map PV.str b2.values_))]] ?_ ?_
  · exact dk
  refine AW.seq ?_
  replace h := obs h; obtain ⟨r4, q5, h⟩ := h
  have f6 := fun hg => c_F20 a1.values_ b2.values_ r4 (guardO_t q5 hg)
  try dsimp only at f6
  refine AW.reg hS [(4, .pv (.bool ((decide (a1.id_ = b2.id_) && decide (a1.name_ = b2.name_)) && r4)))] [.var [.pv (.int .i64 a1.id_), .pv (.str a1.name_), .pv (.slice (List.map PV.str a1.values_))], .var [.pv (.int .i64 b2.id_), .pv (.str b2.name_), .pv (.slice (List.map PV.str b2.values_))]] ?_ ?_
  · clear h
    exact dg1 (an pf_20 f6)
  refine AW.ret ?_
  cases h
  exact fin

set_option maxHeartbeats 4000000 in
theorem g_F23 {O : Orc} (hS : Sound env O) (hpf : O.pf = pfn) (c_F54 : C_F54 O) (a1 : List GEnv) (b2 : List GEnv) (r3 : Bool) (h : F23 a1 b2 = some r3) : Good env 23 [.pv (.slice (List.map GEnv.pv a1)), .pv (.slice (List.map GEnv.pv b2))] [] [.pv (.bool r3)] [] := by
  have pf_54 : O.pf 54 = true := by rw [hpf]; rfl
  refine Good.start (fn := Tryz.f23) (N := 85) fn_23 rfl rfl (by simp) [] _ rfl rfl ?_
  rw [F23] at h
  refine AW.seq ?_
  refine AW.reg hS [(0, .pv (.slice (List.map GEnv.pv a1))), (1, .pv (.slice (List.map GEnv.pv b2)))] [] ?_ ?_
  · exact dk
  refine AW.seq ?_
  refine AW.seq ?_
  refine AW.reg hS [(0, .pv (.slice (List.map GEnv.pv a1))), (1, .pv (.slice (List.map GEnv.pv b2))), (11, .pv (.bool (!decide ((a1.length : Int) = (b2.length : Int)))))] [] ?_ ?_
  · exact dk
  refine AW.cond (b := !decide ((a1.length : Int) = (b2.length : Int))) rfl (fun hb4 => ?_) (fun hb4 => ?_)
  · replace h := bif_t hb4 h
    refine AW.seq ?_
    refine AW.reg hS [(4, .pv (.bool false))] [] ?_ ?_
    · exact dk
    refine AW.ret ?_
    cases h
    exact fin
  · replace h := bif_f hb4 h
    refine AW.skip ?_
    refine AW.seq ?_
    refine AW.seq ?_
    refine AW.reg hS [(0, .pv (.slice (List.map GEnv.pv a1))), (1, .pv (.slice (List.map GEnv.pv b2))), (5, .pv (.int .i64 0))] [] ?_ ?_
    · exact dk
    refine AW.block ?_
    refine AW.weak (Weak.slots (L := [(0, .pv (.slice (List.map GEnv.pv a1))), (1, .pv (.slice (List.map GEnv.pv b2))), (5, .pv (.int .i64 0))]) ⟨rfl, rfl, rfl, trivial⟩) ?_
    refine AW.loopI (α := Nat × Int) (fun (_, i5) => ⟨sl [(0, .pv (.slice (List.map GEnv.pv a1))), (1, .pv (.slice (List.map GEnv.pv b2))), (5, .pv (.int .i64 i5))], 85, []⟩) (fun x => iter (F23_b2 a1 b2) x.1 x.2 = some r3) (fun x => x.1) (BIG, 0) h ?_
    clear h
    intro ⟨n33, i5⟩ h
    replace h := iter_some h; obtain ⟨m8, rfl, h⟩ := h
    rw [F23_b2] at h
    try dsimp only at h
    show AW _ _ _ _ ⟨sl [(0, .pv (.slice (List.map GEnv.pv a1))), (1, .pv (.slice (List.map GEnv.pv b2))), (5, .pv (.int .i64 i5))], 85, []⟩
    refine AW.seq ?_
    refine AW.seq ?_
    refine AW.reg hS [(0, .pv (.slice (List.map GEnv.pv a1))), (1, .pv (.slice (List.map GEnv.pv b2))), (5, .pv (.int .i64 i5)), (15, .pv (.bool (decide (i5 < (a1.length : Int)))))] [] ?_ ?_
    · exact dk
    refine AW.cond (b := decide (i5 < (a1.length : Int))) rfl (fun hb9 => ?_) (fun hb9 => ?_)
    · replace h := bif_t hb9 h
      refine AW.skip ?_
      refine AW.seq ?_
      refine AW.block ?_
      refine AW.seq ?_
      refine AW.seq ?_
      replace h := obs h; obtain ⟨u10, q11, h⟩ := h
      have f12 := lidx_f q11
      replace h := obs h; obtain ⟨u13, q14, h⟩ := h
      have f15 := lidx_f q14
      refine AW.dreg mixed hS (hpf ▸ (by kernel_rfl : orderOK pfn _ = true)) [(0, .pv (.slice (List.map GEnv.pv a1))), (1, .pv (.slice (List.map GEnv.pv b2))), (5, .pv (.int .i64 i5)), (56, .pv (.bool ((!decide (u10.id_ = u13.id_) || !decide (u10.next_ = u13.next_)) || !decide ((u10.vars_.length : Int) = (u13.vars_.length : Int)))))] [] ?_ ?_
      · clear h
        exact dg1 (an f12.1 (an f12.2.1 (an f15.1 f15.2.1)))
      refine AW.cond (b := ((!decide (u10.id_ = u13.id_) || !decide (u10.next_ = u13.next_)) || !decide ((u10.vars_.length : Int) = (u13.vars_.length : Int)))) rfl (fun hb16 => ?_) (fun hb16 => ?_)
      · replace h := bif_t hb16 h
        refine AW.seq ?_
        refine AW.reg hS [(4, .pv (.bool false))] [] ?_ ?_
        · exact dk
        refine AW.ret ?_
        cases h
        exact fin
      · replace h := bif_f hb16 h
        refine AW.skip ?_
        refine AW.seq ?_
        refine AW.reg hS [(0, .pv (.slice (List.map GEnv.pv a1))), (1, .pv (.slice (List.map GEnv.pv b2))), (5, .pv (.int .i64 i5)), (6, .pv (.int .i64 0))] [] ?_ ?_
        · exact dk
        refine AW.block ?_
        refine AW.weak (Weak.slots (L := [(0, .pv (.slice (List.map GEnv.pv a1))), (1, .pv (.slice (List.map GEnv.pv b2))), (5, .pv (.int .i64 i5)), (6, .pv (.int .i64 0))]) ⟨rfl, rfl, rfl, rfl, trivial⟩) ?_
        refine AW.loopI (α := Nat × Int) (fun (_, k17) => ⟨sl [(0, .pv (.slice (List.map GEnv.pv a1))), (1, .pv (.slice (List.map GEnv.pv b2))), (5, .pv (.int .i64 i5)), (6, .pv (.int .i64 k17))], 85, []⟩) (fun x => iter (F23_b3 u10 u13 (iter (F23_b2 a1 b2) m8) i5) x.1 x.2 = some r3) (fun x => x.1) (BIG, 0) h ?_
        clear h
        intro ⟨n32, k17⟩ h
        replace h := iter_some h; obtain ⟨m20, rfl, h⟩ := h
        rw [F23_b3] at h
        try dsimp only at h
        show AW _ _ _ _ ⟨sl [(0, .pv (.slice (List.map GEnv.pv a1))), (1, .pv (.slice (List.map GEnv.pv b2))), (5, .pv (.int .i64 i5)), (6, .pv (.int .i64 k17))], 85, []⟩
        refine AW.seq ?_
        refine AW.seq ?_
        refine AW.reg hS [(0, .pv (.slice (List.map GEnv.pv a1))), (1, .pv (.slice (List.map GEnv.pv b2))), (5, .pv (.int .i64 i5)), (6, .pv (.int .i64 k17)), (64, .pv (.bool (decide (k17 < (u10.vars_.length : Int)))))] [] ?_ ?_
        · exact dk1 (an f12.1 f12.2.1)
        refine AW.cond (b := decide (k17 < (u10.vars_.length : Int))) rfl (fun hb21 => ?_) (fun hb21 => ?_)
        · replace h := bif_t hb21 h
          refine AW.skip ?_
          refine AW.seq ?_
          refine AW.block ?_
          refine AW.seq ?_
          replace h := obs h; obtain ⟨u22, q23, h⟩ := h
          have f24 := lidx_f q23
          replace h := obs h; obtain ⟨u25, q26, h⟩ := h
          have f27 := lidx_f q26
          replace h := obs h; obtain ⟨r28, q29, h⟩ := h
          have f30 := c_F54 u22 u25 r28 q29
          try dsimp only at f30
          refine AW.dreg mixed hS (hpf ▸ (by kernel_rfl : orderOK pfn _ = true)) [(0, .pv (.slice (List.map GEnv.pv a1))), (1, .pv (.slice (List.map GEnv.pv b2))), (5, .pv (.int .i64 i5)), (6, .pv (.int .i64 k17)), (84, .pv (.bool (!r28)))] [] ?_ ?_
          · exact dk1 (an f12.1 (an f12.2.1 (an f24.1 (an f24.2.1 (an f15.1 (an f15.2.1 (an f27.1 (an f27.2.1 (an pf_54 f30)))))))))
          refine AW.cond (b := !r28) rfl (fun hb31 => ?_) (fun hb31 => ?_)
          · replace h := bif_t hb31 h
            refine AW.seq ?_
            refine AW.reg hS [(4, .pv (.bool false))] [] ?_ ?_
            · exact dk
            refine AW.ret ?_
            cases h
            exact fin
          · replace h := bif_f hb31 h
            refine AW.skip ?_
            refine AW.reg hS [(0, .pv (.slice (List.map GEnv.pv a1))), (1, .pv (.slice (List.map GEnv.pv b2))), (5, .pv (.int .i64 i5)), (6, .pv (.int .i64 (IntKind.wrap .i64 (k17 + 1))))] [] ?_ ?_
            · exact dk
            exact ⟨(m20, IntKind.wrap .i64 (k17 + 1)), h, (Weak.norm (m := 0) (Nat.le_of_ble_eq_true rfl) ⟨rfl, rfl, rfl, rfl, trivial⟩ rfl rfl rfl), Nat.lt_succ_self _⟩
        · replace h := bif_f hb21 h
          refine AW.exit ?_
          refine AW.reg hS [(0, .pv (.slice (List.map GEnv.pv a1))), (1, .pv (.slice (List.map GEnv.pv b2))), (5, .pv (.int .i64 (IntKind.wrap .i64 (i5 + 1))))] [] ?_ ?_
          · exact dk
          exact ⟨(m8, IntKind.wrap .i64 (i5 + 1)), h, (Weak.norm (m := 0) (Nat.le_of_ble_eq_true rfl) ⟨rfl, rfl, rfl, trivial⟩ rfl rfl rfl), Nat.lt_succ_self _⟩
    · replace h := bif_f hb9 h
      refine AW.exit ?_
      refine AW.seq ?_
      refine AW.reg hS [(4, .pv (.bool true))] [] ?_ ?_
      · exact dk
      refine AW.ret ?_
      cases h
      exact fin

set_option maxHeartbeats 4000000 in
theorem g_F24 {O : Orc} (hS : Sound env O) (hpf : O.pf = pfn) (c_F49 : C_F49 O) (l1 : List GEnv) (group2 : Int) (to3 : Int) (r4 : List GEnv) (r5 : Int) (h : F24 l1 group2 to3 = some (r4, r5)) : Good env 24 [.pv (.slice (List.map GEnv.pv l1)), .pv (.int .i64 group2), .pv (.int .i64 to3)] [] [.pv (.slice (List.map GEnv.pv r4)), .pv (.int .i64 r5)] [] := by
  have pf_49 : O.pf 49 = true := by rw [hpf]; rfl
  refine Good.start (fn := Tryz.f24) (N := 84) fn_24 rfl rfl (by simp) [] _ rfl rfl ?_
  rw [F24] at h
  refine AW.seq ?_
  refine AW.reg hS [(0, .pv (.slice (List.map GEnv.pv l1))), (1, .pv (.int .i64 group2)), (2, .pv (.int .i64 to3))] [] ?_ ?_
  · exact dk
  refine AW.seq ?_
  refine AW.reg hS [(0, .pv (.slice (List.map GEnv.pv l1))), (1, .pv (.int .i64 group2)), (2, .pv (.int .i64 to3)), (8, .ref 0 0)] [.var [.pv (.int .i64 0), .pv (.int .i64 2), .nils]] ?_ ?_
  · exact dk
  refine AW.seq ?_
  replace h := obs h; obtain ⟨r6, q7, h⟩ := h
  have f8 := c_F49 l1 group2 r6 q7
  try dsimp only at f8
  refine AW.reg hS [(0, .pv (.slice (List.map GEnv.pv l1))), (1, .pv (.int .i64 group2)), (2, .pv (.int .i64 to3)), (8, .ref 0 0), (9, .pv (.int .i64 r6))] [.var [.pv (.int .i64 0), .pv (.int .i64 2), .nils]] ?_ ?_
  · exact dk1 (an pf_49 f8)
  refine AW.seq ?_
  refine AW.seq ?_
  refine AW.reg hS [(0, .pv (.slice (List.map GEnv.pv l1))), (1, .pv (.int .i64 group2)), (2, .pv (.int .i64 to3)), (8, .ref 0 0), (9, .pv (.int .i64 r6)), (30, .pv (.bool ((decide (to3 < 1) || decide (1099511627776 < to3)) || (!decide (group2 = 0) && decide (r6 < 0)))))] [.var [.pv (.int .i64 0), .pv (.int .i64 2), .nils]] ?_ ?_
  · clear h
    exact dg
  refine AW.cond (b := ((decide (to3 < 1) || decide (1099511627776 < to3)) || (!decide (group2 = 0) && decide (r6 < 0)))) rfl (fun hb9 => ?_) (fun hb9 => ?_)
  · replace h := bif_t hb9 h
    refine AW.seq ?_
    refine AW.reg hS [(6, .pv (.slice (List.map GEnv.pv l1))), (7, .pv (.int .i64 1))] [.var [.pv (.int .i64 0), .pv (.int .i64 2), .nils]] ?_ ?_
    · exact dk
    refine AW.ret ?_
    cases h
    exact fin
  · replace h := bif_f hb9 h
    refine AW.skip ?_
    refine AW.seq ?_
    refine AW.seq ?_
    replace h := obs h; obtain ⟨r10, q11, h⟩ := h
    have f12 := c_F49 l1 to3 r10 q11
    try dsimp only at f12
    refine AW.reg hS [(0, .pv (.slice (List.map GEnv.pv l1))), (1, .pv (.int .i64 group2)), (2, .pv (.int .i64 to3)), (8, .ref 0 0), (9, .pv (.int .i64 r6)), (35, .pv (.bool (decide (0 ≤ r10))))] [.var [.pv (.int .i64 0), .pv (.int .i64 2), .nils]] ?_ ?_
    · exact dk1 (an pf_49 f12)
    refine AW.cond (b := decide (0 ≤ r10)) rfl (fun hb13 => ?_) (fun hb13 => ?_)
    · replace h := bif_t hb13 h
      refine AW.seq ?_
      refine AW.reg hS [(6, .pv (.slice (List.map GEnv.pv l1))), (7, .pv (.int .i64 7))] [.var [.pv (.int .i64 0), .pv (.int .i64 2), .nils]] ?_ ?_
      · exact dk
      refine AW.ret ?_
      cases h
      exact fin
    · replace h := bif_f hb13 h
      refine AW.skip ?_
      refine AW.seq ?_
      refine AW.seq ?_
      refine AW.reg hS [(0, .pv (.slice (List.map GEnv.pv l1))), (1, .pv (.int .i64 group2)), (2, .pv (.int .i64 to3)), (8, .ref 0 0), (9, .pv (.int .i64 r6)), (39, .pv (.bool (decide (64 ≤ (l1.length : Int)))))] [.var [.pv (.int .i64 0), .pv (.int .i64 2), .nils]] ?_ ?_
      · exact dk
      refine AW.cond (b := decide (64 ≤ (l1.length : Int))) rfl (fun hb14 => ?_) (fun hb14 => ?_)
      · replace h := bif_t hb14 h
        refine AW.seq ?_
        refine AW.reg hS [(6, .pv (.slice (List.map GEnv.pv l1))), (7, .pv (.int .i64 22))] [.var [.pv (.int .i64 0), .pv (.int .i64 2), .nils]] ?_ ?_
        · exact dk
        refine AW.ret ?_
        cases h
        exact fin
      · replace h := bif_f hb14 h
        refine AW.skip ?_
        refine AW.seq ?_
        refine AW.seq ?_
        refine AW.reg hS [(0, .pv (.slice (List.map GEnv.pv l1))), (2, .pv (.int .i64 to3)), (8, .ref 0 0), (9, .pv (.int .i64 r6)), (42, .pv (.bool (!decide (group2 = 0))))] [.var [.pv (.int .i64 0), .pv (.int .i64 2), .nils]] ?_ ?_
        · exact dk
        refine AW.cond (b := !decide (group2 = 0)) rfl (fun hb15 => ?_) (fun hb15 => ?_)
        · replace h := bif_t hb15 h
          replace h := obs h; obtain ⟨u16, q17, h⟩ := h
          have f18 := lidx_f q17
          refine AW.reg hS [(0, .pv (.slice (List.map GEnv.pv l1))), (2, .pv (.int .i64 to3)), (8, .ref 0 0)] [.var [.pv (.int .i64 u16.id_), .pv (.int .i64 u16.next_), .pv (.slice (List.map Var.pv u16.vars_))]] ?_ ?_
          · exact dk1 (an f18.1 f18.2.1)
          refine AW.seq ?_
          refine AW.reg hS [(0, .pv (.slice (List.map GEnv.pv l1))), (2, .pv (.int .i64 to3)), (8, .ref 0 0)] [.var [.pv (.int .i64 to3), .pv (.int .i64 u16.next_), .pv (.slice (List.map Var.pv u16.vars_))]] ?_ ?_
          · exact dk
          refine AW.seq ?_
          refine AW.reg hS [(0, .pv (.slice (List.map GEnv.pv l1))), (2, .pv (.int .i64 to3)), (8, .ref 0 0), (10, .nils)] [.var [.pv (.int .i64 to3), .pv (.int .i64 u16.next_), .pv (.slice (List.map Var.pv u16.vars_))]] ?_ ?_
          · exact dk
          refine AW.weak (Weak.own 10 34 3 (by decide) rfl) ?_
          refine AW.weak (Weak.slots (L := [(0, .pv (.slice (List.map GEnv.pv l1))), (2, .pv (.int .i64 to3)), (8, .ref 0 0), (10, .vec 1 (List.length ([] : List GEnv)))]) ⟨rfl, rfl, rfl, rfl, trivial⟩) ?_
          refine AW.seq ?_
          refine AW.reg hS [(0, .pv (.slice (List.map GEnv.pv l1))), (2, .pv (.int .i64 to3)), (8, .ref 0 0), (10, .vec 1 (List.length ([] : List GEnv))), (11, .pv (.bool false))] [.var [.pv (.int .i64 to3), .pv (.int .i64 u16.next_), .pv (.slice (List.map Var.pv u16.vars_))], .row 34 3 (List.map GEnv.pv ([] : List GEnv)) true] ?_ ?_
          · exact dk
          refine AW.seq ?_
          refine AW.seq ?_
          refine AW.reg hS [(0, .pv (.slice (List.map GEnv.pv l1))), (2, .pv (.int .i64 to3)), (8, .ref 0 0), (10, .vec 1 (List.length ([] : List GEnv))), (11, .pv (.bool false)), (12, .pv (.int .i64 0))] [.var [.pv (.int .i64 to3), .pv (.int .i64 u16.next_), .pv (.slice (List.map Var.pv u16.vars_))], .row 34 3 (List.map GEnv.pv ([] : List GEnv)) true] ?_ ?_
          · exact dk
          refine AW.block ?_
          refine AW.weak (Weak.slots (L := [(0, .pv (.slice (List.map GEnv.pv l1))), (2, .pv (.int .i64 to3)), (8, .ref 0 0), (10, .vec 1 (List.length ([] : List GEnv))), (11, .pv (.bool false)), (12, .pv (.int .i64 0))]) ⟨rfl, rfl, rfl, rfl, rfl, rfl, trivial⟩) ?_
          refine AW.loopI (α := Nat × Bool × Int × (List GEnv)) (fun (_, done19, k20, l21) => ⟨sl [(0, .pv (.slice (List.map GEnv.pv l1))), (2, .pv (.int .i64 to3)), (8, .ref 0 0), (10, .vec 1 (List.length l21)), (11, .pv (.bool done19)), (12, .pv (.int .i64 k20))], 84, [.var [.pv (.int .i64 to3), .pv (.int .i64 u16.next_), .pv (.slice (List.map Var.pv u16.vars_))], .row 34 3 (List.map GEnv.pv l21) true]⟩) (fun x => iter (F24_b2 l1 to3 u16) x.1 x.2 = some (r4, r5)) (fun x => x.1) (BIG, (false, 0, ([] : List GEnv))) h ?_
          clear h
          intro ⟨n45, done19, k20, l21⟩ h
          replace h := iter_some h; obtain ⟨m24, rfl, h⟩ := h
          rw [F24_b2] at h
          try dsimp only at h
          show AW _ _ _ _ ⟨sl [(0, .pv (.slice (List.map GEnv.pv l1))), (2, .pv (.int .i64 to3)), (8, .ref 0 0), (10, .vec 1 (List.length l21)), (11, .pv (.bool done19)), (12, .pv (.int .i64 k20))], 84, [.var [.pv (.int .i64 to3), .pv (.int .i64 u16.next_), .pv (.slice (List.map Var.pv u16.vars_))], .row 34 3 (List.map GEnv.pv l21) true]⟩
          refine AW.seq ?_
          refine AW.seq ?_
          refine AW.reg hS [(0, .pv (.slice (List.map GEnv.pv l1))), (2, .pv (.int .i64 to3)), (8, .ref 0 0), (10, .vec 1 (List.length l21)), (11, .pv (.bool done19)), (12, .pv (.int .i64 k20)), (52, .pv (.bool (decide (k20 < (l1.length : Int)))))] [.var [.pv (.int .i64 to3), .pv (.int .i64 u16.next_), .pv (.slice (List.map Var.pv u16.vars_))], .row 34 3 (List.map GEnv.pv l21) true] ?_ ?_
          · exact dk
          refine AW.cond (b := decide (k20 < (l1.length : Int))) rfl (fun hb25 => ?_) (fun hb25 => ?_)
          · replace h := bif_t hb25 h
            refine AW.skip ?_
            refine AW.seq ?_
            refine AW.block ?_
            refine AW.seqJ (α := Bool × (List GEnv)) (fun (done26, l27) => ⟨sl [(0, .pv (.slice (List.map GEnv.pv l1))), (2, .pv (.int .i64 to3)), (8, .ref 0 0), (10, .vec 1 (List.length l27)), (11, .pv (.bool done26)), (12, .pv (.int .i64 k20))], 84, [.var [.pv (.int .i64 to3), .pv (.int .i64 u16.next_), .pv (.slice (List.map Var.pv u16.vars_))], .row 34 3 (List.map GEnv.pv l27) true]⟩) (fun x => F24_j3 l1 k20 (iter (F24_b2 l1 to3 u16) m24) x = some (r4, r5)) ?_ ?_
            · intro ⟨done26, l27⟩ h
              rw [F24_j3] at h
              try dsimp only at h
              show AW _ _ _ _ ⟨sl [(0, .pv (.slice (List.map GEnv.pv l1))), (2, .pv (.int .i64 to3)), (8, .ref 0 0), (10, .vec 1 (List.length l27)), (11, .pv (.bool done26)), (12, .pv (.int .i64 k20))], 84, [.var [.pv (.int .i64 to3), .pv (.int .i64 u16.next_), .pv (.slice (List.map Var.pv u16.vars_))], .row 34 3 (List.map GEnv.pv l27) true]⟩
              replace h := obs h; obtain ⟨u28, q29, h⟩ := h
              have f30 := lidx_f q29
              replace h := obs h; obtain ⟨out31, q32, h⟩ := h
              have f33 := appO_f q32
              try simp only [List.length_cons, List.length_nil, List.length_replicate, Nat.zero_add, Nat.reduceAdd, Nat.reduceLeDiff, Nat.add_zero, Nat.reduceMul] at f33
              refine AW.reg hS [(0, .pv (.slice (List.map GEnv.pv l1))), (2, .pv (.int .i64 to3)), (8, .ref 0 0), (10, .vec 1 (List.length out31)), (11, .pv (.bool done26)), (12, .pv (.int .i64 k20))] [.var [.pv (.int .i64 to3), .pv (.int .i64 u16.next_), .pv (.slice (List.map Var.pv u16.vars_))], .row 34 3 (List.map GEnv.pv out31) true] ?_ ?_
              · exact dk1 (an f30.1 (an f30.2.1 (an f33.1 f33.2)))
              clear f33
              refine AW.reg hS [(0, .pv (.slice (List.map GEnv.pv l1))), (2, .pv (.int .i64 to3)), (8, .ref 0 0), (10, .vec 1 (List.length out31)), (11, .pv (.bool done26)), (12, .pv (.int .i64 (IntKind.wrap .i64 (k20 + 1))))] [.var [.pv (.int .i64 to3), .pv (.int .i64 u16.next_), .pv (.slice (List.map Var.pv u16.vars_))], .row 34 3 (List.map GEnv.pv out31) true] ?_ ?_
              · exact dk
              exact ⟨(m24, (done26, IntKind.wrap .i64 (k20 + 1), out31)), h, (Weak.norm (m := 2) (Nat.le_of_ble_eq_true rfl) ⟨rfl, rfl, rfl, rfl, rfl, rfl, trivial⟩ rfl rfl rfl), Nat.lt_succ_self _⟩
            refine AW.seq ?_
            replace h := obs h; obtain ⟨u34, q35, h⟩ := h
            have f36 := lidx_f q35
            refine AW.reg hS [(0, .pv (.slice (List.map GEnv.pv l1))), (2, .pv (.int .i64 to3)), (8, .ref 0 0), (10, .vec 1 (List.length l21)), (11, .pv (.bool done19)), (12, .pv (.int .i64 k20)), (65, .pv (.bool (decide (to3 < u34.id_) && !done19)))] [.var [.pv (.int .i64 to3), .pv (.int .i64 u16.next_), .pv (.slice (List.map Var.pv u16.vars_))], .row 34 3 (List.map GEnv.pv l21) true] ?_ ?_
            · clear h
              exact dg1 (an f36.1 f36.2.1)
            refine AW.cond (b := (decide (to3 < u34.id_) && !done19)) rfl (fun hb37 => ?_) (fun hb37 => ?_)
            · replace h := bif_t hb37 h
              refine AW.seq ?_
              replace h := obs h; obtain ⟨out38, q39, h⟩ := h
              have f40 := appO_f q39
              try simp only [List.length_cons, List.length_nil, List.length_replicate, Nat.zero_add, Nat.reduceAdd, Nat.reduceLeDiff, Nat.add_zero, Nat.reduceMul] at f40
              refine AW.reg hS [(0, .pv (.slice (List.map GEnv.pv l1))), (2, .pv (.int .i64 to3)), (8, .ref 0 0), (10, .vec 1 (List.length out38)), (12, .pv (.int .i64 k20))] [.var [.pv (.int .i64 to3), .pv (.int .i64 u16.next_), .pv (.slice (List.map Var.pv u16.vars_))], .row 34 3 (List.map GEnv.pv out38) true] ?_ ?_
              · exact dk1 (an f40.1 f40.2)
              clear f40
              refine AW.reg hS [(0, .pv (.slice (List.map GEnv.pv l1))), (2, .pv (.int .i64 to3)), (8, .ref 0 0), (10, .vec 1 (List.length out38)), (11, .pv (.bool true)), (12, .pv (.int .i64 k20))] [.var [.pv (.int .i64 to3), .pv (.int .i64 u16.next_), .pv (.slice (List.map Var.pv u16.vars_))], .row 34 3 (List.map GEnv.pv out38) true] ?_ ?_
              · exact dk
              exact ⟨(true, out38), h, (Weak.norm (m := 2) (Nat.le_of_ble_eq_true rfl) ⟨rfl, rfl, rfl, rfl, rfl, rfl, trivial⟩ rfl rfl rfl)⟩
            · replace h := bif_f hb37 h
              refine AW.skip ?_
              exact ⟨(done19, l21), h, (Weak.norm (m := 2) (Nat.le_of_ble_eq_true rfl) ⟨rfl, rfl, rfl, rfl, rfl, rfl, trivial⟩ rfl rfl rfl)⟩
          · replace h := bif_f hb25 h
            refine AW.exit ?_
            refine AW.seq ?_
            refine AW.seq ?_
            refine AW.reg hS [(8, .ref 0 0), (10, .vec 1 (List.length l21)), (78, .pv (.bool (!done19)))] [.var [.pv (.int .i64 to3), .pv (.int .i64 u16.next_), .pv (.slice (List.map Var.pv u16.vars_))], .row 34 3 (List.map GEnv.pv l21) true] ?_ ?_
            · exact dk
            refine AW.cond (b := !done19) rfl (fun hb41 => ?_) (fun hb41 => ?_)
            · replace h := bif_t hb41 h
              replace h := obs h; obtain ⟨out42, q43, h⟩ := h
              have f44 := appO_f q43
              try simp only [List.length_cons, List.length_nil, List.length_replicate, Nat.zero_add, Nat.reduceAdd, Nat.reduceLeDiff, Nat.add_zero, Nat.reduceMul] at f44
              refine AW.reg hS [(10, .vec 1 (List.length out42))] [.var [.pv (.int .i64 to3), .pv (.int .i64 u16.next_), .pv (.slice (List.map Var.pv u16.vars_))], .row 34 3 (List.map GEnv.pv out42) true] ?_ ?_
              · exact dk1 (an f44.1 f44.2)
              clear f44
              refine AW.seq ?_
              refine AW.reg hS [(6, .vec 1 (List.length out42)), (7, .pv (.int .i64 0))] [.var [.pv (.int .i64 to3), .pv (.int .i64 u16.next_), .pv (.slice (List.map Var.pv u16.vars_))], .row 34 3 (List.map GEnv.pv out42) true] ?_ ?_
              · exact dk
              refine AW.ret ?_
              cases h
              exact fin
            · replace h := bif_f hb41 h
              refine AW.skip ?_
              refine AW.seq ?_
              refine AW.reg hS [(6, .vec 1 (List.length l21)), (7, .pv (.int .i64 0))] [.var [.pv (.int .i64 to3), .pv (.int .i64 u16.next_), .pv (.slice (List.map Var.pv u16.vars_))], .row 34 3 (List.map GEnv.pv l21) true] ?_ ?_
              · exact dk
              refine AW.ret ?_
              cases h
              exact fin
        · replace h := bif_f hb15 h
          refine AW.skip ?_
          refine AW.seq ?_
          refine AW.reg hS [(0, .pv (.slice (List.map GEnv.pv l1))), (2, .pv (.int .i64 to3)), (8, .ref 0 0)] [.var [.pv (.int .i64 to3), .pv (.int .i64 2), .nils]] ?_ ?_
          · exact dk
          refine AW.seq ?_
          refine AW.reg hS [(0, .pv (.slice (List.map GEnv.pv l1))), (2, .pv (.int .i64 to3)), (8, .ref 0 0), (10, .nils)] [.var [.pv (.int .i64 to3), .pv (.int .i64 2), .nils]] ?_ ?_
          · exact dk
          refine AW.weak (Weak.own 10 34 3 (by decide) rfl) ?_
          refine AW.weak (Weak.slots (L := [(0, .pv (.slice (List.map GEnv.pv l1))), (2, .pv (.int .i64 to3)), (8, .ref 0 0), (10, .vec 1 (List.length ([] : List GEnv)))]) ⟨rfl, rfl, rfl, rfl, trivial⟩) ?_
          refine AW.seq ?_
          refine AW.reg hS [(0, .pv (.slice (List.map GEnv.pv l1))), (2, .pv (.int .i64 to3)), (8, .ref 0 0), (10, .vec 1 (List.length ([] : List GEnv))), (11, .pv (.bool false))] [.var [.pv (.int .i64 to3), .pv (.int .i64 2), .nils], .row 34 3 (List.map GEnv.pv ([] : List GEnv)) true] ?_ ?_
          · exact dk
          refine AW.seq ?_
          refine AW.seq ?_
          refine AW.reg hS [(0, .pv (.slice (List.map GEnv.pv l1))), (2, .pv (.int .i64 to3)), (8, .ref 0 0), (10, .vec 1 (List.length ([] : List GEnv))), (11, .pv (.bool false)), (12, .pv (.int .i64 0))] [.var [.pv (.int .i64 to3), .pv (.int .i64 2), .nils], .row 34 3 (List.map GEnv.pv ([] : List GEnv)) true] ?_ ?_
          · exact dk
          refine AW.block ?_
          refine AW.weak (Weak.cellPV 0 2 (cs := [.pv (.int .i64 to3), .pv (.int .i64 2), .nils]) (a := .nils) (p := .slice (List.map Var.pv ([] : List Var))) rfl rfl (by first | rfl | simp only [toPV, List.getElem?_cons_zero, List.getElem?_cons_succ, List.length_map, if_true, List.map_nil])) ?_
          refine AW.weak (σ' := ⟨sl [(0, .pv (.slice (List.map GEnv.pv l1))), (2, .pv (.int .i64 to3)), (8, .ref 0 0), (10, .vec 1 (List.length ([] : List GEnv))), (11, .pv (.bool false)), (12, .pv (.int .i64 0))], 84, [.var [.pv (.int .i64 to3), .pv (.int .i64 2), .pv (.slice (List.map Var.pv ([] : List Var)))], .row 34 3 (List.map GEnv.pv ([] : List GEnv)) true]⟩) (Weak.of_eq (Weak.slots (L := [(0, .pv (.slice (List.map GEnv.pv l1))), (2, .pv (.int .i64 to3)), (8, .ref 0 0), (10, .vec 1 (List.length ([] : List GEnv))), (11, .pv (.bool false)), (12, .pv (.int .i64 0))]) ⟨rfl, rfl, rfl, rfl, rfl, rfl, trivial⟩) (by first | rfl | (simp only [List.length_set, List.length_map]; rfl))) ?_
          refine AW.weak (Weak.slots (L := [(0, .pv (.slice (List.map GEnv.pv l1))), (2, .pv (.int .i64 to3)), (8, .ref 0 0), (10, .vec 1 (List.length ([] : List GEnv))), (11, .pv (.bool false)), (12, .pv (.int .i64 0))]) ⟨rfl, rfl, rfl, rfl, rfl, rfl, trivial⟩) ?_
          refine AW.loopI (α := Nat × Bool × Int × (List GEnv)) (fun (_, done46, k47, l48) => ⟨sl [(0, .pv (.slice (List.map GEnv.pv l1))), (2, .pv (.int .i64 to3)), (8, .ref 0 0), (10, .vec 1 (List.length l48)), (11, .pv (.bool done46)), (12, .pv (.int .i64 k47))], 84, [.var [.pv (.int .i64 to3), .pv (.int .i64 2), .pv (.slice (List.map Var.pv ([] : List Var)))], .row 34 3 (List.map GEnv.pv l48) true]⟩) (fun x => iter (F24_b5 l1 to3) x.1 x.2 = some (r4, r5)) (fun x => x.1) (BIG, (false, 0, ([] : List GEnv))) h ?_
          clear h
          intro ⟨n72, done46, k47, l48⟩ h
          replace h := iter_some h; obtain ⟨m51, rfl, h⟩ := h
          rw [F24_b5] at h
          try dsimp only at h
          show AW _ _ _ _ ⟨sl [(0, .pv (.slice (List.map GEnv.pv l1))), (2, .pv (.int .i64 to3)), (8, .ref 0 0), (10, .vec 1 (List.length l48)), (11, .pv (.bool done46)), (12, .pv (.int .i64 k47))], 84, [.var [.pv (.int .i64 to3), .pv (.int .i64 2), .pv (.slice (List.map Var.pv ([] : List Var)))], .row 34 3 (List.map GEnv.pv l48) true]⟩
          refine AW.seq ?_
          refine AW.seq ?_
          refine AW.reg hS [(0, .pv (.slice (List.map GEnv.pv l1))), (2, .pv (.int .i64 to3)), (8, .ref 0 0), (10, .vec 1 (List.length l48)), (11, .pv (.bool done46)), (12, .pv (.int .i64 k47)), (52, .pv (.bool (decide (k47 < (l1.length : Int)))))] [.var [.pv (.int .i64 to3), .pv (.int .i64 2), .pv (.slice (List.map Var.pv ([] : List Var)))], .row 34 3 (List.map GEnv.pv l48) true] ?_ ?_
          · exact dk
          refine AW.cond (b := decide (k47 < (l1.length : Int))) rfl (fun hb52 => ?_) (fun hb52 => ?_)
          · replace h := bif_t hb52 h
            refine AW.skip ?_
            refine AW.seq ?_
            refine AW.block ?_
            refine AW.seqJ (α := Bool × (List GEnv)) (fun (done53, l54) => ⟨sl [(0, .pv (.slice (List.map GEnv.pv l1))), (2, .pv (.int .i64 to3)), (8, .ref 0 0), (10, .vec 1 (List.length l54)), (11, .pv (.bool done53)), (12, .pv (.int .i64 k47))], 84, [.var [.pv (.int .i64 to3), .pv (.int .i64 2), .pv (.slice (List.map Var.pv ([] : List Var)))], .row 34 3 (List.map GEnv.pv l54) true]⟩) (fun x => F24_j6 l1 k47 (iter (F24_b5 l1 to3) m51) x = some (r4, r5)) ?_ ?_
            · intro ⟨done53, l54⟩ h
              rw [F24_j6] at h
              try dsimp only at h
              show AW _ _ _ _ ⟨sl [(0, .pv (.slice (List.map GEnv.pv l1))), (2, .pv (.int .i64 to3)), (8, .ref 0 0), (10, .vec 1 (List.length l54)), (11, .pv (.bool done53)), (12, .pv (.int .i64 k47))], 84, [.var [.pv (.int .i64 to3), .pv (.int .i64 2), .pv (.slice (List.map Var.pv ([] : List Var)))], .row 34 3 (List.map GEnv.pv l54) true]⟩
              replace h := obs h; obtain ⟨u55, q56, h⟩ := h
              have f57 := lidx_f q56
              replace h := obs h; obtain ⟨out58, q59, h⟩ := h
              have f60 := appO_f q59
              try simp only [List.length_cons, List.length_nil, List.length_replicate, Nat.zero_add, Nat.reduceAdd, Nat.reduceLeDiff, Nat.add_zero, Nat.reduceMul] at f60
              refine AW.reg hS [(0, .pv (.slice (List.map GEnv.pv l1))), (2, .pv (.int .i64 to3)), (8, .ref 0 0), (10, .vec 1 (List.length out58)), (11, .pv (.bool done53)), (12, .pv (.int .i64 k47))] [.var [.pv (.int .i64 to3), .pv (.int .i64 2), .pv (.slice (List.map Var.pv ([] : List Var)))], .row 34 3 (List.map GEnv.pv out58) true] ?_ ?_
              · exact dk1 (an f57.1 (an f57.2.1 (an f60.1 f60.2)))
              clear f60
              refine AW.reg hS [(0, .pv (.slice (List.map GEnv.pv l1))), (2, .pv (.int .i64 to3)), (8, .ref 0 0), (10, .vec 1 (List.length out58)), (11, .pv (.bool done53)), (12, .pv (.int .i64 (IntKind.wrap .i64 (k47 + 1))))] [.var [.pv (.int .i64 to3), .pv (.int .i64 2), .pv (.slice (List.map Var.pv ([] : List Var)))], .row 34 3 (List.map GEnv.pv out58) true] ?_ ?_
              · exact dk
              exact ⟨(m51, (done53, IntKind.wrap .i64 (k47 + 1), out58)), h, (Weak.norm (m := 2) (Nat.le_of_ble_eq_true rfl) ⟨rfl, rfl, rfl, rfl, rfl, rfl, trivial⟩ rfl rfl rfl), Nat.lt_succ_self _⟩
            refine AW.seq ?_
            replace h := obs h; obtain ⟨u61, q62, h⟩ := h
            have f63 := lidx_f q62
            refine AW.reg hS [(0, .pv (.slice (List.map GEnv.pv l1))), (2, .pv (.int .i64 to3)), (8, .ref 0 0), (10, .vec 1 (List.length l48)), (11, .pv (.bool done46)), (12, .pv (.int .i64 k47)), (65, .pv (.bool (decide (to3 < u61.id_) && !done46)))] [.var [.pv (.int .i64 to3), .pv (.int .i64 2), .pv (.slice (List.map Var.pv ([] : List Var)))], .row 34 3 (List.map GEnv.pv l48) true] ?_ ?_
            · clear h
              exact dg1 (an f63.1 f63.2.1)
            refine AW.cond (b := (decide (to3 < u61.id_) && !done46)) rfl (fun hb64 => ?_) (fun hb64 => ?_)
            · replace h := bif_t hb64 h
              refine AW.seq ?_
              replace h := obs h; obtain ⟨out65, q66, h⟩ := h
              have f67 := appO_f q66
              try simp only [List.length_cons, List.length_nil, List.length_replicate, Nat.zero_add, Nat.reduceAdd, Nat.reduceLeDiff, Nat.add_zero, Nat.reduceMul] at f67
              refine AW.reg hS [(0, .pv (.slice (List.map GEnv.pv l1))), (2, .pv (.int .i64 to3)), (8, .ref 0 0), (10, .vec 1 (List.length out65)), (12, .pv (.int .i64 k47))] [.var [.pv (.int .i64 to3), .pv (.int .i64 2), .pv (.slice (List.map Var.pv ([] : List Var)))], .row 34 3 (List.map GEnv.pv out65) true] ?_ ?_
              · exact dk1 (an f67.1 f67.2)
              clear f67
              refine AW.reg hS [(0, .pv (.slice (List.map GEnv.pv l1))), (2, .pv (.int .i64 to3)), (8, .ref 0 0), (10, .vec 1 (List.length out65)), (11, .pv (.bool true)), (12, .pv (.int .i64 k47))] [.var [.pv (.int .i64 to3), .pv (.int .i64 2), .pv (.slice (List.map Var.pv ([] : List Var)))], .row 34 3 (List.map GEnv.pv out65) true] ?_ ?_
              · exact dk
              exact ⟨(true, out65), h, (Weak.norm (m := 2) (Nat.le_of_ble_eq_true rfl) ⟨rfl, rfl, rfl, rfl, rfl, rfl, trivial⟩ rfl rfl rfl)⟩
            · replace h := bif_f hb64 h
              refine AW.skip ?_
              exact ⟨(done46, l48), h, (Weak.norm (m := 2) (Nat.le_of_ble_eq_true rfl) ⟨rfl, rfl, rfl, rfl, rfl, rfl, trivial⟩ rfl rfl rfl)⟩
          · replace h := bif_f hb52 h
            refine AW.exit ?_
            refine AW.seq ?_
            refine AW.seq ?_
            refine AW.reg hS [(8, .ref 0 0), (10, .vec 1 (List.length l48)), (78, .pv (.bool (!done46)))] [.var [.pv (.int .i64 to3), .pv (.int .i64 2), .pv (.slice (List.map Var.pv ([] : List Var)))], .row 34 3 (List.map GEnv.pv l48) true] ?_ ?_
            · exact dk
            refine AW.cond (b := !done46) rfl (fun hb68 => ?_) (fun hb68 => ?_)
            · replace h := bif_t hb68 h
              replace h := obs h; obtain ⟨out69, q70, h⟩ := h
              have f71 := appO_f q70
              try simp only [List.length_cons, List.length_nil, List.length_replicate, Nat.zero_add, Nat.reduceAdd, Nat.reduceLeDiff, Nat.add_zero, Nat.reduceMul] at f71
              refine AW.reg hS [(10, .vec 1 (List.length out69))] [.var [.pv (.int .i64 to3), .pv (.int .i64 2), .pv (.slice (List.map Var.pv ([] : List Var)))], .row 34 3 (List.map GEnv.pv out69) true] ?_ ?_
              · exact dk1 (an f71.1 f71.2)
              clear f71
              refine AW.seq ?_
              refine AW.reg hS [(6, .vec 1 (List.length out69)), (7, .pv (.int .i64 0))] [.var [.pv (.int .i64 to3), .pv (.int .i64 2), .pv (.slice (List.map Var.pv ([] : List Var)))], .row 34 3 (List.map GEnv.pv out69) true] ?_ ?_
              · exact dk
              refine AW.ret ?_
              cases h
              exact fin
            · replace h := bif_f hb68 h
              refine AW.skip ?_
              refine AW.seq ?_
              refine AW.reg hS [(6, .vec 1 (List.length l48)), (7, .pv (.int .i64 0))] [.var [.pv (.int .i64 to3), .pv (.int .i64 2), .pv (.slice (List.map Var.pv ([] : List Var)))], .row 34 3 (List.map GEnv.pv l48) true] ?_ ?_
              · exact dk
              refine AW.ret ?_
              cases h
              exact fin

set_option maxHeartbeats 4000000 in
theorem g_F25 {O : Orc} (hS : Sound env O) (hpf : O.pf = pfn) (c_F32 : C_F32 O) (c_F45 : C_F45 O) (c_F36 : C_F36 O) (c_F37x1 : C_F37x1 O) (c_F41 : C_F41 O) (l1 : List GEnv) (group2 : Int) (id3 : Int) (name4 : Str) (r5 : List GEnv) (r6 : Int) (r7 : Int) (h : F25 l1 group2 id3 name4 = some (r5, r6, r7)) : Good env 25 [.pv (.slice (List.map GEnv.pv l1)), .pv (.int .i64 group2), .pv (.int .i64 id3), .pv (.str name4)] [] [.pv (.slice (List.map GEnv.pv r5)), .pv (.int .i64 r6), .pv (.int .i64 r7)] [] := by
  have pf_32 : O.pf 32 = false := by rw [hpf]; rfl
  have pf_36 : O.pf 36 = true := by rw [hpf]; rfl
  have pf_37 : O.pf 37 = false := by rw [hpf]; rfl
  have pf_41 : O.pf 41 = true := by rw [hpf]; rfl
  have pf_45 : O.pf 45 = true := by rw [hpf]; rfl
  refine Good.start (fn := Tryz.f25) (N := 65) fn_25 rfl rfl (by simp) [] _ rfl rfl ?_
  rw [F25] at h
  refine AW.seq ?_
  refine AW.reg hS [(0, .pv (.slice (List.map GEnv.pv l1))), (1, .pv (.int .i64 group2)), (2, .pv (.int .i64 id3)), (3, .pv (.str name4))] [] ?_ ?_
  · exact dk
  refine AW.seq ?_
  replace h := obs h; obtain ⟨⟨r8, m9⟩, q10, h⟩ := h
  dsimp only at h
  have f11 := c_F32 l1 r8 m9 q10
  try dsimp only at f11
  have e12 : ecall O [] 32 [.pv (.slice (List.map GEnv.pv l1))] = some (retAV [.vec 0 (List.length r8)], [.tree 34 3 2 37 3 m9 (List.map GEnv.pv r8)]) := ecall_eq rfl rfl rfl f11 rfl rfl rfl
  refine AW.reg hS [(0, .pv (.slice (List.map GEnv.pv l1))), (1, .pv (.int .i64 group2)), (2, .pv (.int .i64 id3)), (3, .pv (.str name4)), (11, .vec 0 (List.length r8))] [.tree 34 3 2 37 3 m9 (List.map GEnv.pv r8)] ?_ ?_
  · exact dk1 (an pf_32 e12)
  refine AW.seq ?_
  replace h := obs h; obtain ⟨⟨r13, r14⟩, q15, h⟩ := h
  dsimp only at h
  have f16 := c_F45 l1 group2 id3 r13 r14 q15
  try dsimp only at f16
  refine AW.reg hS [(0, .pv (.slice (List.map GEnv.pv l1))), (3, .pv (.str name4)), (11, .vec 0 (List.length r8)), (12, .pv (.int .i64 r13)), (13, .pv (.int .i64 r14))] [.tree 34 3 2 37 3 m9 (List.map GEnv.pv r8)] ?_ ?_
  · exact dk1 (an pf_45 f16)
  refine AW.seq ?_
  refine AW.block ?_
  refine AW.seq ?_
  refine AW.reg hS [(0, .pv (.slice (List.map GEnv.pv l1))), (3, .pv (.str name4)), (11, .vec 0 (List.length r8)), (12, .pv (.int .i64 r13)), (13, .pv (.int .i64 r14)), (24, .pv (.bool (!decide (r14 = 0))))] [.tree 34 3 2 37 3 m9 (List.map GEnv.pv r8)] ?_ ?_
  · exact dk
  refine AW.cond (b := !decide (r14 = 0)) rfl (fun hb17 => ?_) (fun hb17 => ?_)
  · replace h := bif_t hb17 h
    refine AW.seq ?_
    refine AW.reg hS [(8, .vec 0 (List.length r8)), (9, .pv (.int .i64 0)), (10, .pv (.int .i64 r14))] [.tree 34 3 2 37 3 m9 (List.map GEnv.pv r8)] ?_ ?_
    · exact dk
    refine AW.weak (Weak.treeRow 0 rfl) ?_
    refine AW.weak (σ' := ⟨sl [(8, .vec 0 (List.length r8)), (9, .pv (.int .i64 0)), (10, .pv (.int .i64 r14))], 65, [.row 34 3 (List.map GEnv.pv r8) false]⟩) (Weak.of_eq (Weak.slots (L := [(8, .vec 0 (List.length r8)), (9, .pv (.int .i64 0)), (10, .pv (.int .i64 r14))]) ⟨rfl, rfl, rfl, trivial⟩) (by first | rfl | (simp only [List.length_set, List.length_map]; rfl))) ?_
    refine AW.weak (Weak.freeze 0 rfl) ?_
    refine AW.weak (σ' := ⟨sl [(8, .vec 0 (List.length r8)), (9, .pv (.int .i64 0)), (10, .pv (.int .i64 r14))], 65, [.row 34 3 (List.map GEnv.pv r8) true]⟩) (Weak.slots ⟨rfl, rfl, rfl, trivial⟩) ?_
    refine AW.ret ?_
    cases h
    exact fin
  · replace h := bif_f hb17 h
    refine AW.seq ?_
    replace h := obs h; obtain ⟨r18, q19, h⟩ := h
    have f20 := c_F36 name4 r18 q19
    try dsimp only at f20
    refine AW.reg hS [(0, .pv (.slice (List.map GEnv.pv l1))), (3, .pv (.str name4)), (11, .vec 0 (List.length r8)), (12, .pv (.int .i64 r13)), (29, .pv (.bool (!r18)))] [.tree 34 3 2 37 3 m9 (List.map GEnv.pv r8)] ?_ ?_
    · exact dk1 (an pf_36 f20)
    refine AW.cond (b := !r18) rfl (fun hb21 => ?_) (fun hb21 => ?_)
    · replace h := bif_t hb21 h
      refine AW.seq ?_
      refine AW.reg hS [(8, .vec 0 (List.length r8)), (9, .pv (.int .i64 0)), (10, .pv (.int .i64 6))] [.tree 34 3 2 37 3 m9 (List.map GEnv.pv r8)] ?_ ?_
      · exact dk
      refine AW.weak (Weak.treeRow 0 rfl) ?_
      refine AW.weak (σ' := ⟨sl [(8, .vec 0 (List.length r8)), (9, .pv (.int .i64 0)), (10, .pv (.int .i64 6))], 65, [.row 34 3 (List.map GEnv.pv r8) false]⟩) (Weak.of_eq (Weak.slots (L := [(8, .vec 0 (List.length r8)), (9, .pv (.int .i64 0)), (10, .pv (.int .i64 6))]) ⟨rfl, rfl, rfl, trivial⟩) (by first | rfl | (simp only [List.length_set, List.length_map]; rfl))) ?_
      refine AW.weak (Weak.freeze 0 rfl) ?_
      refine AW.weak (σ' := ⟨sl [(8, .vec 0 (List.length r8)), (9, .pv (.int .i64 0)), (10, .pv (.int .i64 6))], 65, [.row 34 3 (List.map GEnv.pv r8) true]⟩) (Weak.slots ⟨rfl, rfl, rfl, trivial⟩) ?_
      refine AW.ret ?_
      cases h
      exact fin
    · replace h := bif_f hb21 h
      refine AW.seq ?_
      replace h := obs h; obtain ⟨u22, q23, h⟩ := h
      have f24 := lidx_f q23
      replace h := obs h; obtain ⟨r25, q26, h⟩ := h
      have f27 := c_F37x1 u22 name4 r25 q26
      try dsimp only at f27
      have e28 : ecall O [.tree 34 3 2 37 3 m9 (List.map GEnv.pv r8)] 37 [.pv (.agg [.int .i64 u22.id_, .int .i64 u22.next_, .slice (List.map Var.pv u22.vars_)]), .pv (.str name4)] = some (retAV [.pv (.int .i64 r25)], [.tree 34 3 2 37 3 m9 (List.map GEnv.pv r8)]) := ecall_eq rfl rfl rfl f27 rfl rfl rfl
      refine AW.reg hS [(3, .pv (.str name4)), (11, .vec 0 (List.length r8)), (12, .pv (.int .i64 r13)), (34, .pv (.bool (decide (0 ≤ r25))))] [.tree 34 3 2 37 3 m9 (List.map GEnv.pv r8)] ?_ ?_
      · exact dk1 (an f24.1 (an f24.2.1 (an pf_37 e28)))
      refine AW.cond (b := decide (0 ≤ r25)) rfl (fun hb29 => ?_) (fun hb29 => ?_)
      · replace h := bif_t hb29 h
        refine AW.seq ?_
        refine AW.reg hS [(8, .vec 0 (List.length r8)), (9, .pv (.int .i64 0)), (10, .pv (.int .i64 7))] [.tree 34 3 2 37 3 m9 (List.map GEnv.pv r8)] ?_ ?_
        · exact dk
        refine AW.weak (Weak.treeRow 0 rfl) ?_
        refine AW.weak (σ' := ⟨sl [(8, .vec 0 (List.length r8)), (9, .pv (.int .i64 0)), (10, .pv (.int .i64 7))], 65, [.row 34 3 (List.map GEnv.pv r8) false]⟩) (Weak.of_eq (Weak.slots (L := [(8, .vec 0 (List.length r8)), (9, .pv (.int .i64 0)), (10, .pv (.int .i64 7))]) ⟨rfl, rfl, rfl, trivial⟩) (by first | rfl | (simp only [List.length_set, List.length_map]; rfl))) ?_
        refine AW.weak (Weak.freeze 0 rfl) ?_
        refine AW.weak (σ' := ⟨sl [(8, .vec 0 (List.length r8)), (9, .pv (.int .i64 0)), (10, .pv (.int .i64 7))], 65, [.row 34 3 (List.map GEnv.pv r8) true]⟩) (Weak.slots ⟨rfl, rfl, rfl, trivial⟩) ?_
        refine AW.ret ?_
        cases h
        exact fin
      · replace h := bif_f hb29 h
        refine AW.skip ?_
        refine AW.seq ?_
        replace h := obs h; obtain ⟨u30, q31, h⟩ := h
        have f32 := lidx_f q31
        replace h := obs h; obtain ⟨_, hoq10, h⟩ := h
        have hop10 := ltO_f hoq10
        refine AW.weak (Weak.open 0 (Int.toNat r13) (ys := List.map Var.pv u30.vars_) (cs := [.int .i64 u30.id_, .int .i64 u30.next_, .slice (List.map Var.pv u30.vars_)]) rfl hop10 (by rw [List.getElem?_map, f32.2.1]; rfl) rfl) ?_
        refine AW.weak (σ' := ⟨sl [(3, .pv (.str name4)), (11, .vec 0 (List.length r8)), (12, .pv (.int .i64 r13)), (34, .pv (.bool (decide (0 ≤ r25))))], 65, [.hrow 34 3 (List.map GEnv.pv r8) (Int.toNat r13) 2 1 (List.length u30.vars_), .row 37 3 (List.map Var.pv u30.vars_) false]⟩) (Weak.of_eq (Weak.slots (L := [(3, .pv (.str name4)), (11, .vec 0 (List.length r8)), (12, .pv (.int .i64 r13)), (34, .pv (.bool (decide (0 ≤ r25))))]) ⟨rfl, rfl, rfl, rfl, trivial⟩) (by first | rfl | (simp only [List.length_set, List.length_map]; rfl))) ?_
        refine AW.weak (Weak.freeze 1 rfl) ?_
        refine AW.weak (σ' := ⟨sl [(3, .pv (.str name4)), (11, .vec 0 (List.length r8)), (12, .pv (.int .i64 r13)), (34, .pv (.bool (decide (0 ≤ r25))))], 65, [.hrow 34 3 (List.map GEnv.pv r8) (Int.toNat r13) 2 1 (List.length u30.vars_), .row 37 3 (List.map Var.pv u30.vars_) true]⟩) (Weak.slots ⟨rfl, rfl, rfl, rfl, trivial⟩) ?_
        refine AW.weak (Weak.close 0 (cs := [.int .i64 u30.id_, .int .i64 u30.next_, .slice (List.map Var.pv u30.vars_)]) (xs' := List.map GEnv.pv r8) rfl rfl (by simp only [List.length_map]) (by rw [List.getElem?_map, f32.2.1]; rfl) (set_self (by rw [List.getElem?_map, f32.2.1]; rfl))) ?_
        refine AW.weak (σ' := ⟨sl [(3, .pv (.str name4)), (11, .vec 0 (List.length r8)), (12, .pv (.int .i64 r13)), (34, .pv (.bool (decide (0 ≤ r25))))], 65, [.row 34 3 (List.map GEnv.pv r8) false, .row 37 3 (List.map Var.pv u30.vars_) true]⟩) (Weak.of_eq (Weak.slots (L := [(3, .pv (.str name4)), (11, .vec 0 (List.length r8)), (12, .pv (.int .i64 r13)), (34, .pv (.bool (decide (0 ≤ r25))))]) ⟨rfl, rfl, rfl, rfl, trivial⟩) (by first | rfl | (simp only [List.length_set, List.length_map]; rfl))) ?_
        replace h := obs h; obtain ⟨⟨r33, r34⟩, q35, h⟩ := h
        dsimp only at h
        have f36 := c_F41 u30 name4 [[]] r33 r34 q35
        try dsimp only at f36
        try simp only [List.map_cons, List.map_nil, P23_eq, Var.pv_eq, P32_eq, GEnv.pv_eq, GOp.pv_eq] at f36
        refine AW.reg hS [(11, .vec 0 (List.length r8)), (12, .pv (.int .i64 r13)), (13, .pv (.int .i64 r34)), (14, .ref 2 0)] [.row 34 3 (List.map GEnv.pv r8) false, .row 37 3 (List.map Var.pv u30.vars_) true, .var [.pv (.int .i64 r33.id_), .pv (.int .i64 r33.next_), .pv (.slice (List.map Var.pv r33.vars_))]] ?_ ?_
        · exact dk1 (an f32.1 (an f32.2.1 (an f32.2.2 (an pf_41 f36))))
        refine AW.seq ?_
        refine AW.seq ?_
        refine AW.reg hS [(11, .vec 0 (List.length r8)), (12, .pv (.int .i64 r13)), (13, .pv (.int .i64 r34)), (14, .ref 2 0), (54, .pv (.bool (!decide (r34 = 0))))] [.row 34 3 (List.map GEnv.pv r8) false, .row 37 3 (List.map Var.pv u30.vars_) true, .var [.pv (.int .i64 r33.id_), .pv (.int .i64 r33.next_), .pv (.slice (List.map Var.pv r33.vars_))]] ?_ ?_
        · exact dk
        refine AW.cond (b := !decide (r34 = 0)) rfl (fun hb37 => ?_) (fun hb37 => ?_)
        · replace h := bif_t hb37 h
          refine AW.seq ?_
          refine AW.reg hS [(8, .vec 0 (List.length r8)), (9, .pv (.int .i64 0)), (10, .pv (.int .i64 r34))] [.row 34 3 (List.map GEnv.pv r8) false, .row 37 3 (List.map Var.pv u30.vars_) true, .var [.pv (.int .i64 r33.id_), .pv (.int .i64 r33.next_), .pv (.slice (List.map Var.pv r33.vars_))]] ?_ ?_
          · exact dk
          refine AW.weak (Weak.freeze 0 rfl) ?_
          refine AW.weak (σ' := ⟨sl [(8, .vec 0 (List.length r8)), (9, .pv (.int .i64 0)), (10, .pv (.int .i64 r34))], 65, [.row 34 3 (List.map GEnv.pv r8) true, .row 37 3 (List.map Var.pv u30.vars_) true, .var [.pv (.int .i64 r33.id_), .pv (.int .i64 r33.next_), .pv (.slice (List.map Var.pv r33.vars_))]]⟩) (Weak.slots ⟨rfl, rfl, rfl, trivial⟩) ?_
          refine AW.ret ?_
          cases h
          exact fin
        · replace h := bif_f hb37 h
          refine AW.skip ?_
          refine AW.seq ?_
          refine AW.reg hS [(11, .vec 0 (List.length (List.set r8 (Int.toNat r13) r33))), (14, .ref 2 0)] [.row 34 3 (List.map GEnv.pv (List.set r8 (Int.toNat r13) r33)) false, .row 37 3 (List.map Var.pv u30.vars_) true, .var [.pv (.int .i64 r33.id_), .pv (.int .i64 r33.next_), .pv (.slice (List.map Var.pv r33.vars_))]] ?_ ?_
          · exact dk1 (an f32.1 (an f32.2.1 f32.2.2))
          refine AW.seq ?_
          refine AW.dreg mixed hS (hpf ▸ (by kernel_rfl : orderOK pfn _ = true)) [(8, .vec 0 (List.length (List.set r8 (Int.toNat r13) r33))), (9, .pv (.int .i64 (IntKind.wrap .i64 (r33.next_ - 1)))), (10, .pv (.int .i64 0))] [.row 34 3 (List.map GEnv.pv (List.set r8 (Int.toNat r13) r33)) false, .row 37 3 (List.map Var.pv u30.vars_) true, .var [.pv (.int .i64 r33.id_), .pv (.int .i64 r33.next_), .pv (.slice (List.map Var.pv r33.vars_))]] ?_ ?_
          · exact dk
          refine AW.weak (Weak.freeze 0 rfl) ?_
          refine AW.weak (σ' := ⟨sl [(8, .vec 0 (List.length (List.set r8 (Int.toNat r13) r33))), (9, .pv (.int .i64 (IntKind.wrap .i64 (r33.next_ - 1)))), (10, .pv (.int .i64 0))], 65, [.row 34 3 (List.map GEnv.pv (List.set r8 (Int.toNat r13) r33)) true, .row 37 3 (List.map Var.pv u30.vars_) true, .var [.pv (.int .i64 r33.id_), .pv (.int .i64 r33.next_), .pv (.slice (List.map Var.pv r33.vars_))]]⟩) (Weak.slots ⟨rfl, rfl, rfl, trivial⟩) ?_
          refine AW.ret ?_
          cases h
          exact fin

end Go.Abs.U2Z
